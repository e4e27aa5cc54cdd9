/- The steepest span: the program's and the reference's. -/
import Derived.Test.YtjfmicemnoglkaaChoD
import Derived.Test.YtjfmicemnoglkaaCmpA
import Derived.Test.YtjfmicemnoglkaaBlkN
import Derived.Test.YtjfmicemnoglkaaSupE
namespace Go.Proofs.Ytjfmicemnoglkaa
open Go.RowKit
set_option linter.unusedVariables false
set_option linter.unusedSimpArgs false

def ssV (rows : List (List Int)) : Int := if lineOk rows = true then (stI rows (rows.length - 1) : Int) else 0
theorem ss_no {rows : List (List Int)} (h : lineOk rows = false) : ssV rows = 0 := by simp [ssV, h]
theorem ss_yes {rows : List (List Int)} (h : lineOk rows = true) : ssV rows = (stI rows (rows.length - 1) : Int) := by simp [ssV, h]
theorem rs_bd {rows : List (List Int)} (L : Line rows) {i : Nat} (hi : i + 1 < rows.length) : (0 ≤ rsV rows i ∧ rsV rows i ≤ 2000) ∧ (1 ≤ lnV rows i ∧ lnV rows i ≤ 3000) := by
  have a := L.ht i (by omega)
  have b := L.ht (i + 1) hi
  have c := L.at_ i (by omega)
  have d := L.at_ (i + 1) hi
  have e := L.rise i hi
  unfold rsV lnV
  omega
theorem stI_take {rows : List (List Int)} {k : Nat} (h : rsV rows (stI rows k) * lnV rows k < rsV rows k * lnV rows (stI rows k)) : stI rows (k + 1) = k := by simp only [stI]; rw [if_pos h]
theorem stI_keep {rows : List (List Int)} {k : Nat} (h : ¬ rsV rows (stI rows k) * lnV rows k < rsV rows k * lnV rows (stI rows k)) : stI rows (k + 1) = stI rows k := by simp only [stI]; rw [if_neg h]
theorem stI_one (rows : List (List Int)) : stI rows 1 = 0 := by simp [stI]
/-- What the program's loop holds. -/
def stRel (rows : List (List Int)) (k b : Nat) (x y : Int) : Prop := (k = 0 ∧ b = 0 ∧ x = -1 ∧ y = 1) ∨ (0 < k ∧ b = stI rows k ∧ x = rsV rows b ∧ y = lnV rows b)
theorem stRel_take {rows : List (List Int)} {k b : Nat} {x y : Int} (h : stRel rows k b x y) (hlt : x * lnV rows k < rsV rows k * y) : stRel rows (k + 1) k (rsV rows k) (lnV rows k) := by
  rcases h with ⟨rfl, rfl, rfl, rfl⟩ | ⟨h0, rfl, rfl, rfl⟩
  · exact .inr ⟨by omega, (stI_one rows).symm, rfl, rfl⟩
  · exact .inr ⟨by omega, (stI_take hlt).symm, rfl, rfl⟩
theorem stRel_keep {rows : List (List Int)} {k b : Nat} {x y : Int} (L : Line rows) (hk : k + 1 < rows.length) (h : stRel rows k b x y) (hlt : ¬ x * lnV rows k < rsV rows k * y) : stRel rows (k + 1) b x y := by
  rcases h with ⟨rfl, rfl, rfl, rfl⟩ | ⟨h0, rfl, rfl, rfl⟩
  · obtain ⟨a, b⟩ := rs_bd L hk
    exfalso
    omega
  · exact .inr ⟨by omega, (stI_keep hlt).symm, rfl, rfl⟩
set_option maxRecDepth 100000 in
set_option maxHeartbeats 8000000 in
theorem impl_SteepestSpan (A : Option Addr) (n c : Nat) (rows : List (List Int)) (w : World) (h : RdL w A n rows) (hm : n ≤ 1048577) :
    Calls Try.prog 30 #[.slice A n c] w (Ret w (.tuple #[.int .i64 (ssV rows), .bool (lineOk rows)])) := by
  have ci := fun w' (h' : RdL w' A n rows) => impl_IsLine A n c rows w' h' hm
  have hB : Below w.heap.size w w := Below.refl _ _
  rcases ho : lineOk rows with _ | _
  · rw [ss_no ho]
    rw [ho] at ci
    have CI := Lib.hid ci
    have HH := Lib.hid h
    clear ci ho h
    go_enter Try.func30, Try.ntmps30
    go_wp2_with (go_at_call 107; refine (CI.out _ (by exact HH.out.below (by repeat (first | exact Below.refl _ _ | assumption | apply Below.drew | apply below_drewN | (refine Below.alloc ?_ (by first | omega | (simp; done) | (simp; omega)) _) | (refine Below.setCell ?_ (by first | omega | (simp; done) | (simp; omega)) _))))).mono ?_; rintro e w' ⟨rfl, hb⟩; have hB : Below w.heap.size w w' := Below.thenn (by repeat (first | exact Below.refl _ _ | assumption | apply Below.drew | apply below_drewN | (refine Below.alloc ?_ (by first | omega | (simp; done) | (simp; omega)) _) | (refine Below.setCell ?_ (by first | omega | (simp; done) | (simp; omega)) _))) hb (by first | omega | (simp; done) | (simp; omega)); have hz : w.heap.size ≤ w'.heap.size := hB.size; (try (have hz1 : w.heap.size + 1 ≤ w'.heap.size := (by have h := hb.size; (try simp at h); omega))); obtain ⟨hc, hf⟩ := bcell hb; skip; clear hb)
    go_ret2
    exact ⟨rfl, (by repeat (first | exact Below.refl _ _ | assumption | apply Below.drew | apply below_drewN | (refine Below.alloc ?_ (by first | omega | (simp; done) | (simp; omega)) _) | (refine Below.setCell ?_ (by first | omega | (simp; done) | (simp; omega)) _)))⟩
  · have L := lineOk_line ho
    have hlo := L.lo
    have hhi := L.hi
    have hn := h.2.1
    rw [ss_yes ho]
    rw [hn] at hlo hhi ⊢
    rw [ho] at ci
    obtain ⟨m, rfl⟩ : ∃ m, n = m + 1 := ⟨n - 1, by omega⟩
    have cl := fun w' (h' : RdL w' A (m + 1) rows) => impl_spanLengths A (m + 1) c rows w' h' hm ho
    simp only [Nat.add_sub_cancel] at cl ⊢
    have CI := Lib.hid ci
    have CL := Lib.hid cl
    have HH := Lib.hid h
    have LL := Lib.hid L
    have HN := Lib.hid hn
    clear ci cl ho h L hn
    go_enter Try.func30, Try.ntmps30
    go_wp2_with (go_at_call 107; refine (CI.out _ (by exact HH.out.below (by repeat (first | exact Below.refl _ _ | assumption | apply Below.drew | apply below_drewN | (refine Below.alloc ?_ (by first | omega | (simp; done) | (simp; omega)) _) | (refine Below.setCell ?_ (by first | omega | (simp; done) | (simp; omega)) _))))).mono ?_; rintro e w' ⟨rfl, hb⟩; have hB : Below w.heap.size w w' := Below.thenn (by repeat (first | exact Below.refl _ _ | assumption | apply Below.drew | apply below_drewN | (refine Below.alloc ?_ (by first | omega | (simp; done) | (simp; omega)) _) | (refine Below.setCell ?_ (by first | omega | (simp; done) | (simp; omega)) _))) hb (by first | omega | (simp; done) | (simp; omega)); have hz : w.heap.size ≤ w'.heap.size := hB.size; (try (have hz1 : w.heap.size + 1 ≤ w'.heap.size := (by have h := hb.size; (try simp at h); omega))); obtain ⟨hc, hf⟩ := bcell hb; skip; clear hb)
    refine (CL.out _ (by exact HH.out.below (by repeat (first | exact Below.refl _ _ | assumption | apply Below.drew | apply below_drewN | (refine Below.alloc ?_ (by first | omega | (simp; done) | (simp; omega)) _) | (refine Below.setCell ?_ (by first | omega | (simp; done) | (simp; omega)) _))))).mono ?_
    rintro e w3 ⟨A2, c2, rfl, hO, hb⟩
    have T3 := Lib.hid ((Blk.new w' 115 #[.int .i64 (-1), .int .i64 1]).below hb (Blk.new w' 115 #[.int .i64 (-1), .int .i64 1]).lt)
    have B3 := Lib.hid (Below.thenn (hB.alloc hz (.cells #[.int .i64 (-1), .int .i64 1] 115)) hb (by simp; omega))
    have hge := fun k hk => hO.block_ge k hk
    rw [show (w'.alloc (.cells #[.int .i64 (-1), .int .i64 1] 115)).heap.size = w'.heap.size + 1 by simp] at hge
    have hqz := T3.out.lt
    obtain ⟨p1, o1, v1, rfl, _, hc1⟩ := hO.rd.at1 (k := 0) (by omega)
    have hpq : p1 ≠ w'.heap.size := by
      have := hge p1 (by simp [Value.ownBlock])
      omega
    have HR := Lib.hid hO.rd
    have hqw : w.heap.size ≤ w'.heap.size := hz
    clear hc1 hO hge hb hc hf hz hB
    generalize w'.heap.size = q at *
    go_wp2_with fail
    go_loopg [4, 16] m (fun gg best i wr => ∃ (k b : Nat) (x y : Int), k ≤ m ∧ m ≤ k + gg ∧ i = .int .i64 k ∧ best = .int .i64 b ∧ (-1 ≤ x ∧ x ≤ 2000) ∧ (1 ≤ y ∧ y ≤ 3000) ∧ Hid (Blk wr q 115 #[.int .i64 x, .int .i64 y]) ∧ Hid (w3.grownBy wr (some q)) ∧ Hid (stRel rows k b x y))
    case atStart => exact ⟨0, 0, -1, 1, by omega, by omega, rfl, rfl, by omega, by omega, T3, Lib.hid (World.grownBy.refl _ _), .inl ⟨rfl, rfl, rfl, rfl⟩⟩
    case round =>
      clear T3
      obtain ⟨k, b, x, y, hk1, hk2, rfl, rfl, hx, hy, T, HG, HS⟩ := hrel
      have BW := Lib.hid (B3.out.grown HG.out B3.out.size (fun k hk => by injection hk with hk; omega))
      by_cases hlt : k < m
      · obtain ⟨bl, off, hA, hbl, _, d1, _⟩ := HH.out.rowN (k := k) (by omega)
        obtain ⟨bl', off', hA', _, _, e1, _⟩ := HH.out.rowN (k := k + 1) (by omega)
        subst hA
        injection hA' with hA'
        injection hA' with h1 h2
        subst h1 h2
        obtain ⟨p2, o2, v2, e2, hv2, ck⟩ := (HR.out.only HG.out (by intro b off e; injection e with e; injection e with e; omega)).at1 (k := k) hlt
        injection e2 with e2
        injection e2 with e3 e4
        subst e3 e4
        rw [spL_at hlt] at hv2
        injection hv2 with hv2
        have c0 := (BW.out.cell (p := ⟨bl, off + k * 3 + 1, none⟩) hbl).trans d1
        have c1 := (BW.out.cell (p := ⟨bl, off + (k + 1) * 3 + 1, none⟩) hbl).trans e1
        obtain ⟨b1, b2⟩ := rs_bd LL.out (i := k) (by have := HN.out; omega)
        have hh0 := LL.out.ht k (by have := HN.out; omega)
        have hh1 := LL.out.ht (k + 1) (by have := HN.out; omega)
        have ST := Lib.hid (stRel_take (rows := rows) HS.out)
        have SK := Lib.hid (stRel_keep LL.out (by have := HN.out; omega) HS.out)
        have hD : max (htN rows k - htN rows (k + 1)) (htN rows (k + 1) - htN rows k) = rsV rows k := by unfold rsV; omega
        have hv3 : v2 = lnV rows k := by rw [← hv2]; rfl
        subst hv3
        have CD := Lib.hid (fun w => hD ▸ impl_distance (htN rows k) (htN rows (k + 1)) w (by omega) (by omega))
        clear hv2 d1 e1 hD
        generalize htN rows k = g0 at *
        generalize htN rows (k + 1) = g1 at *
        generalize rsV rows k = d at *
        generalize lnV rows k = l at *
        have k0 : ((k : Int) + 1).toNat = k + 1 := by omega
        have k3 : (0 : Int) ≤ (k : Int) + 1 := by omega
        have k4 : (k : Int) < (m : Int) + 1 := by omega
        have k5 : (k : Int) + 1 < (m : Int) + 1 := by omega
        have k6 : (k : Int) < ((m + 1 : Nat) : Int) := by omega
        have k7 : (k : Int) + 1 < ((m + 1 : Nat) : Int) := by omega
        have k8 : k < m + 1 := by omega
        have k9 : k + 1 < m + 1 := by omega
        have u9 : IntKind.i64.wrap ((k : Int) + 1) = (k : Int) + 1 := IntWalk.i64_in _ (by omega)
        have hblr : bl < wr.heap.size := Nat.lt_of_lt_of_le hbl BW.out.size
        have hqr := T.out.lt
        have hwr := BW.out.size
        go_upto_region 7 with fail
        go_cut [8] (fun s8 wx => ∃ g : Nat, s8 = .pointer (some ⟨g, 0, none⟩) ∧ wr.heap.size ≤ g ∧ Hid (Blk wx g 115 #[.int .i64 d, .int .i64 l]) ∧ Hid (Below wr.heap.size wr wx))
        case first =>
          have hB : Below wr.heap.size wr wr := Below.refl _ _
          go_region_held3 (fun w' => w'.cell? ⟨bl, off + k * 3 + 1, none⟩ = some (.int .i64 g0) ∧ w'.cell? ⟨bl, off + (k + 1) * 3 + 1, none⟩ = some (.int .i64 g1)) (((try dsimp only); (repeat' apply And.intro) <;> first | assumption | (refine (hc _ _ ?_).trans ?_ <;> first | assumption | omega | (simp; done) | (simp; omega) | (simp [*]; done) | (simp [World.cell?_alloc_some, *]; done)) | (simp [*, World.cell?_alloc_some, World.cell?_setCell_far]; done) | (simp; omega) | (exact (by repeat (first | exact Below.refl _ _ | assumption | apply Below.drew | apply below_drewN | (refine Below.alloc ?_ (by first | omega | (simp; done) | (simp; omega)) _) | (refine Below.setCell ?_ (by first | omega | (simp; done) | (simp; omega)) _)))))) (((go_at_call 112; refine (CD.out _).mono ?_; rintro e w' ⟨rfl, rfl⟩)))
          all_goals go_wp2_with fail
          all_goals go_meet
          all_goals exact ⟨_, rfl, by first | exact Nat.le_refl _ | (simp; done), (show Blk _ _ _ _ by (repeat (first | ((with_reducible refine Blk.newE ?_); (focus (first | rfl | (simp; done)))) | (with_reducible apply Blk.drew') | (with_reducible apply Blk.alloc)))), (show Below _ _ _ by (repeat (first | exact Below.refl _ _ | apply Below.drew | (refine Below.alloc ?_ (by first | exact Nat.le_refl _ | simp) _))))⟩
        case rest =>
          obtain ⟨g8, rfl, hg8, T8, B8⟩ := hcut
          have TQ := Lib.hid (T.out.below B8.out hqr)
          have G8 := Lib.hid (only_trans HG.out (only_of_below B8.out (some q)))
          obtain ⟨p0, p1'⟩ := T8.out.cells2
          obtain ⟨q0, q1⟩ := TQ.out.cells2
          clear c0 c1 ck
          go_wp2_with fail
          refine (impl_compare d l x y wc (by omega) (by omega) (by omega) (by omega)).mono ?_
          rintro e w5 ⟨rfl, hb⟩
          have T85 := Lib.hid (T8.out.below hb T8.out.lt)
          have TQ5 := Lib.hid (TQ.out.below hb TQ.out.lt)
          have G5 := Lib.hid (only_trans G8.out (only_of_below hb (some q)))
          have hgt := cmpV_gt (a := d) (b := l) (c := x) (d := y)
          clear hb p0 p1' q0 q1 TQ T8 G8
          obtain ⟨p0, p1'⟩ := T85.out.cells2
          obtain ⟨q0, q1⟩ := TQ5.out.cells2
          have f0 := TQ5.out.frozen 0
          have f1 := TQ5.out.frozen 1
          have hq5 := TQ5.out.lt
          generalize cmpV d l x y = z at *
          by_cases hcmp : x * l < d * y
          · rw [decide_eq_true hcmp] at hgt
            have HS2 := Lib.hid (ST.out hcmp)
            have G6 := Lib.hid (only_setCell (only_setCell G5.out (p := ⟨q, 0, none⟩) (.inl rfl) (.int .i64 d)) (p := ⟨q, 1, none⟩) (.inl rfl) (.int .i64 l))
            have T6 := Lib.hid (TQ5.out.put2 (x := .int .i64 d) (y := .int .i64 l))
            clear hcmp
            go_wp2_with fail
            go_region
            all_goals go_wp2_with fail
            all_goals go_roundg (m - (k + 1))
            case measure => omega
            case rel => exact ⟨k + 1, k, d, l, by omega, by omega, by go_num, rfl, by omega, by omega, (show Blk _ _ _ _ from T6.out), Lib.hid (only_drew G6.out), HS2.out⟩
          · rw [decide_eq_false hcmp] at hgt
            have HS2 := Lib.hid (SK.out (by omega))
            clear hcmp
            go_wp2_with fail
            go_roundg (m - (k + 1))
            case measure => omega
            case rel => exact ⟨k + 1, b, x, y, by omega, by omega, by go_num, rfl, by omega, by omega, TQ5, G5, HS2.out⟩
      · obtain rfl : k = m := by omega
        have HB : Hid (b = stI rows k) := by
          rcases HS.out with ⟨h0, _⟩ | ⟨_, h1, _⟩
          · omega
          · exact h1
        go_wp2_with fail
        go_ret2
        exact ⟨ret_ib (by rw [HB.out]) rfl, BW.out⟩
set_option maxRecDepth 100000 in
set_option maxHeartbeats 4000000 in
theorem spec_l2Rise (A : Option Addr) (n c : Nat) (rows : List (List Int)) (j : Nat) (wo : World) (h : RdL wo A n rows) (L : Line rows) (hj : j + 1 < n) :
    Calls Try.prog 114 #[.slice A n c, .int .i64 j] wo (Ret wo (.tuple #[.int .i64 (rsV rows j), .int .i64 (lnV rows j)])) := by
  have hn := h.2.1
  obtain ⟨bl, off, hA, hbl, d0, d1, _⟩ := h.rowN (k := j) (by omega)
  obtain ⟨bl', off', hA', _, e0, e1, _⟩ := h.rowN (k := j + 1) (by omega)
  subst hA
  injection hA' with hA'
  injection hA' with h1 h2
  subst h1 h2
  have h8 := L.hi
  have a0 := L.ht j (by omega)
  have a1 := L.ht (j + 1) (by omega)
  have a2 := L.at_ j (by omega)
  have a3 := L.at_ (j + 1) (by omega)
  unfold rsV lnV
  clear h L
  generalize htN rows j = g0 at *
  generalize htN rows (j + 1) = g1 at *
  generalize atN rows j = x0 at *
  generalize atN rows (j + 1) = x1 at *
  have u1 : IntKind.i64.wrap (g1 - g0) = g1 - g0 := IntWalk.i64_in _ (by omega)
  have u2 : IntKind.i64.wrap (-(g1 - g0)) = -(g1 - g0) := IntWalk.i64_in _ (by omega)
  have u3 : IntKind.i64.wrap (x1 - x0) = x1 - x0 := IntWalk.i64_in _ (by omega)
  have k0 : ((j : Int) + 1).toNat = j + 1 := by omega
  have k3 : (0 : Int) ≤ (j : Int) + 1 := by omega
  go_enter Try.func114, Try.ntmps114
  go_wp2_with fail
  go_quiet (fail)
  have B1 := below_drewN (Below.refl wo.heap.size wo) nq
  have q0 := (B1.cell (p := ⟨bl, off + j * 3, none⟩) hbl).trans d0
  have q2 := (B1.cell (p := ⟨bl, off + (j + 1) * 3, none⟩) hbl).trans e0
  have HB1 := Lib.hid B1
  have hz1 := B1.size
  clear B1 d0 d1 e0 e1
  go_wp2_with fail
  generalize wo.drewN nq = w at *
  have hbw : bl < w.heap.size := by omega
  have hB : Below w.heap.size w w := Below.refl _ _
  (refine wp_region_ext (by kernel_rfl) (by kernel_rfl) ?_; have hxe := ext_cells; (repeat (go_big_quiet_step ((go_at_call 108; exact ext_pure (spec_l1Most _ _ _))))); refine wpQuiet_nil ?_; intro w' hw'; obtain ⟨nx, hw''⟩ := hw'; have hbx := ext_out hw''; clear hw'' nx hxe; have hB : Below w.heap.size w w' := Below.thenn (by repeat (first | exact Below.refl _ _ | assumption | apply Below.drew | apply below_drewN | (refine Below.alloc ?_ (by first | omega | (simp; done) | (simp; omega)) _) | (refine Below.setCell ?_ (by first | omega | (simp; done) | (simp; omega)) _))) hbx (by first | omega | (simp; done) | (simp; omega)); have hz : w.heap.size ≤ w'.heap.size := hB.size; obtain ⟨hc, hf⟩ := bcell hbx; clear hbx)
  go_wp2_with fail
  go_ret2
  exact ⟨by first | rfl | (rw [u2]), Below.thenn HB1.out hB HB1.out.size⟩
set_option maxRecDepth 100000 in
set_option maxHeartbeats 4000000 in
theorem spec_SteepestSpan (A : Option Addr) (n c : Nat) (rows : List (List Int)) (w : World) (h : RdL w A n rows) (hm : n ≤ 1048577) :
    Calls Try.prog 31 #[.slice A n c] w (Ret w (.tuple #[.int .i64 (ssV rows), .bool (lineOk rows)])) := by
  have ci := fun w' (h' : RdL w' A n rows) => spec_l2Line A n c rows w' h' hm
  have hB : Below w.heap.size w w := Below.refl _ _
  rcases ho : lineOk rows with _ | _
  · rw [ss_no ho]
    rw [ho] at ci
    have CI := Lib.hid ci
    have HH := Lib.hid h
    clear ci ho h
    go_enter Try.func31, Try.ntmps31
    go_wp2_with (go_at_call 111; refine (CI.out _ (by exact HH.out.below (by repeat (first | exact Below.refl _ _ | assumption | apply Below.drew | apply below_drewN | (refine Below.alloc ?_ (by first | omega | (simp; done) | (simp; omega)) _) | (refine Below.setCell ?_ (by first | omega | (simp; done) | (simp; omega)) _))))).mono ?_; rintro e w' ⟨rfl, hb⟩; have hB : Below w.heap.size w w' := Below.thenn (by repeat (first | exact Below.refl _ _ | assumption | apply Below.drew | apply below_drewN | (refine Below.alloc ?_ (by first | omega | (simp; done) | (simp; omega)) _) | (refine Below.setCell ?_ (by first | omega | (simp; done) | (simp; omega)) _))) hb (by first | omega | (simp; done) | (simp; omega)); have hz : w.heap.size ≤ w'.heap.size := hB.size; (try (have hz1 : w.heap.size + 1 ≤ w'.heap.size := (by have h := hb.size; (try simp at h); omega))); obtain ⟨hc, hf⟩ := bcell hb; skip; clear hb)
    go_ret2
    exact ⟨rfl, (by repeat (first | exact Below.refl _ _ | assumption | apply Below.drew | apply below_drewN | (refine Below.alloc ?_ (by first | omega | (simp; done) | (simp; omega)) _) | (refine Below.setCell ?_ (by first | omega | (simp; done) | (simp; omega)) _)))⟩
  · have L := lineOk_line ho
    have hlo := L.lo
    have hhi := L.hi
    have hn := h.2.1
    rw [ss_yes ho]
    rw [hn] at hlo hhi ⊢
    rw [ho] at ci
    obtain ⟨m, rfl⟩ : ∃ m, n = m + 1 := ⟨n - 1, by omega⟩
    simp only [Nat.add_sub_cancel]
    have CR := Lib.hid (fun (j : Nat) (hj : j + 1 < m + 1) w' (h' : RdL w' A (m + 1) rows) => spec_l2Rise A (m + 1) c rows j w' h' L hj)
    have RB := Lib.hid (fun (j : Nat) (hj : j + 1 < rows.length) => rs_bd L (i := j) hj)
    have CI := Lib.hid ci
    have HH := Lib.hid h
    have HN := Lib.hid hn
    have S1 := Lib.hid (stI_one rows)
    have SL := Lib.hid (fun k => stI_lt rows k)
    clear ci ho h L hn
    go_enter Try.func31, Try.ntmps31
    go_wp2_with (go_at_call 111; refine (CI.out _ (by exact HH.out.below (by repeat (first | exact Below.refl _ _ | assumption | apply Below.drew | apply below_drewN | (refine Below.alloc ?_ (by first | omega | (simp; done) | (simp; omega)) _) | (refine Below.setCell ?_ (by first | omega | (simp; done) | (simp; omega)) _))))).mono ?_; rintro e w' ⟨rfl, hb⟩; have hB : Below w.heap.size w w' := Below.thenn (by repeat (first | exact Below.refl _ _ | assumption | apply Below.drew | apply below_drewN | (refine Below.alloc ?_ (by first | omega | (simp; done) | (simp; omega)) _) | (refine Below.setCell ?_ (by first | omega | (simp; done) | (simp; omega)) _))) hb (by first | omega | (simp; done) | (simp; omega)); have hz : w.heap.size ≤ w'.heap.size := hB.size; (try (have hz1 : w.heap.size + 1 ≤ w'.heap.size := (by have h := hb.size; (try simp at h); omega))); obtain ⟨hc, hf⟩ := bcell hb; skip; clear hb)
    have B1 := Lib.hid hB
    clear hB hc hf hz
    go_loopg [4, 5] m (fun gg best i wr => ∃ (k b : Nat), 1 ≤ k ∧ k ≤ m ∧ m ≤ k + gg ∧ i = .int .i64 k ∧ best = .int .i64 b ∧ b < k ∧ Hid (Below w.heap.size w wr) ∧ Hid (b = stI rows k))
    case atStart => exact ⟨1, 0, by omega, by omega, by omega, rfl, rfl, by omega, B1, S1.out.symm⟩
    case round =>
      obtain ⟨k, b, hk0, hk1, hk2, rfl, rfl, hbk, HB, HS⟩ := hrel
      by_cases hlt : k < m
      · obtain ⟨r1, r2⟩ := RB.out k (by have := HN.out; omega)
        obtain ⟨r3, r4⟩ := RB.out b (by have := HN.out; omega)
        have C1 := Lib.hid (CR.out k (by omega))
        have C2 := Lib.hid (CR.out b (by omega))
        have ST := Lib.hid (stI_take (rows := rows) (k := k))
        have SK := Lib.hid (stI_keep (rows := rows) (k := k))
        rw [← HS.out] at ST SK
        generalize rsV rows k = a1 at *
        generalize lnV rows k = l1 at *
        generalize rsV rows b = a2 at *
        generalize lnV rows b = l2 at *
        have m1 := mulB (a := a1) (b := l2) (A := 2000) (B := 3000) r1.1 r1.2 (by omega) r4.2
        have m2 := mulB (a := a2) (b := l1) (A := 2000) (B := 3000) r3.1 r3.2 (by omega) r2.2
        have u1 : IntKind.i64.wrap (a1 * l2) = a1 * l2 := IntWalk.i64_in _ (by omega)
        have u2 : IntKind.i64.wrap (a2 * l1) = a2 * l1 := IntWalk.i64_in _ (by omega)
        go_wp2_with fail
        refine (C1.out wr (HH.out.below HB.out)).mono ?_
        rintro e w3 ⟨rfl, hb⟩
        have H3 := Lib.hid (Below.thenn HB.out hb HB.out.size)
        clear hb
        go_wp2_with fail
        refine (C2.out w3 (HH.out.below H3.out)).mono ?_
        rintro e w4 ⟨rfl, hb⟩
        have H4 := Lib.hid (Below.thenn H3.out hb H3.out.size)
        clear hb
        by_cases hc : a2 * l1 < a1 * l2
        · have HN2 := Lib.hid (ST.out hc)
          go_wp2_with fail
          go_roundg (m - (k + 1))
          case measure => omega
          case rel => exact ⟨k + 1, k, by omega, by omega, by omega, by go_num, rfl, by omega, H4, HN2.out.symm⟩
        · have HN2 := Lib.hid (SK.out (by omega))
          go_wp2_with fail
          go_roundg (m - (k + 1))
          case measure => omega
          case rel => exact ⟨k + 1, b, by omega, by omega, by omega, by go_num, rfl, by omega, H4, (HN2.out.trans (by first | rfl | exact HS.out.symm)).symm⟩
      · obtain rfl : k = m := by omega
        go_wp2_with fail
        go_ret2
        exact ⟨ret_ib (by rw [HS.out]) rfl, HB.out⟩
end Go.Proofs.Ytjfmicemnoglkaa
