/- Chords: the chord at a place, in lowest terms; the stations; the steepest span of the reference. -/
import Derived.Test.YtjfmicemnoglkaaChoC
import Derived.Test.YtjfmicemnoglkaaFrcB
import Derived.Test.YtjfmicemnoglkaaSagB
namespace Go.Proofs.Ytjfmicemnoglkaa
open Go.RowKit
set_option linter.unusedVariables false
set_option linter.unusedSimpArgs false

theorem ch_in {rows : List (List Int)} {place : Int} (ho : onOk rows place = true) : (0 ≤ chN rows place ∧ chN rows place ≤ 12000000) ∧ (0 < lL rows place ∧ lL rows place ≤ 3000) := by
  obtain ⟨hl, h0, h1⟩ := onOk_iff.1 ho
  have L := lineOk_line hl
  obtain ⟨_, _, c, _⟩ := lXY L h0 h1
  exact ⟨(ch_bd L h0 h1).1, by omega, c.2⟩
set_option maxHeartbeats 2000000 in
theorem impl_ChordAt (A : Option Addr) (n c : Nat) (rows : List (List Int)) (place : Int) (w : World) (h : RdL w A n rows) (hm : n ≤ 1048577) :
    Calls Try.prog 34 #[.slice A n c, .int .i64 place] w (Ret w (.tuple #[.int .i64 (cqN rows place), .int .i64 (cqD rows place), .bool (onOk rows place)])) := by
  have ci := fun w' (h' : RdL w' A n rows) => impl_isPlaceOf A n c rows place w' h' hm
  have hB : Below w.heap.size w w := Below.refl _ _
  rcases ho : onOk rows place with _ | _
  · rw [ho] at ci
    rw [(cq_no ho).1, (cq_no ho).2]
    have CI := Lib.hid ci
    have HH := Lib.hid h
    clear ci ho h
    go_enter Try.func34, Try.ntmps34
    go_wp2_with (go_at_call 97; refine (CI.out _ (by exact HH.out.below (by repeat (first | exact Below.refl _ _ | assumption | apply Below.drew | apply below_drewN | (refine Below.alloc ?_ (by first | omega | (simp; done) | (simp; omega)) _) | (refine Below.setCell ?_ (by first | omega | (simp; done) | (simp; omega)) _))))).mono ?_; rintro e w' ⟨rfl, hb⟩; have hB : Below w.heap.size w w' := Below.thenn (by repeat (first | exact Below.refl _ _ | assumption | apply Below.drew | apply below_drewN | (refine Below.alloc ?_ (by first | omega | (simp; done) | (simp; omega)) _) | (refine Below.setCell ?_ (by first | omega | (simp; done) | (simp; omega)) _))) hb (by first | omega | (simp; done) | (simp; omega)); have hz : w.heap.size ≤ w'.heap.size := hB.size; (try (have hz1 : w.heap.size + 1 ≤ w'.heap.size := (by have h := hb.size; (try simp at h); omega))); obtain ⟨hc, hf⟩ := bcell hb; skip; clear hb)
    go_ret3
    exact ⟨rfl, (by repeat (first | exact Below.refl _ _ | assumption | apply Below.drew | apply below_drewN | (refine Below.alloc ?_ (by first | omega | (simp; done) | (simp; omega)) _) | (refine Below.setCell ?_ (by first | omega | (simp; done) | (simp; omega)) _)))⟩
  · rw [ho] at ci
    have cs := fun w' (h' : RdL w' A n rows) => impl_chordAt A n c rows place w' h' hm ho
    obtain ⟨q1, q2⟩ := ch_in ho
    rw [(cq_yes ho).1, (cq_yes ho).2]
    generalize chN rows place = z at *
    generalize lL rows place = l at *
    have cl := fun w' => impl_lowest z l w' (by omega) (by omega)
    have CI := Lib.hid ci
    have CS := Lib.hid cs
    have CL := Lib.hid cl
    have HH := Lib.hid h
    clear ci cs cl ho h
    go_enter Try.func34, Try.ntmps34
    go_wp2_with (go_at_call 97; refine (CI.out _ (by exact HH.out.below (by repeat (first | exact Below.refl _ _ | assumption | apply Below.drew | apply below_drewN | (refine Below.alloc ?_ (by first | omega | (simp; done) | (simp; omega)) _) | (refine Below.setCell ?_ (by first | omega | (simp; done) | (simp; omega)) _))))).mono ?_; rintro e w' ⟨rfl, hb⟩; have hB : Below w.heap.size w w' := Below.thenn (by repeat (first | exact Below.refl _ _ | assumption | apply Below.drew | apply below_drewN | (refine Below.alloc ?_ (by first | omega | (simp; done) | (simp; omega)) _) | (refine Below.setCell ?_ (by first | omega | (simp; done) | (simp; omega)) _))) hb (by first | omega | (simp; done) | (simp; omega)); have hz : w.heap.size ≤ w'.heap.size := hB.size; (try (have hz1 : w.heap.size + 1 ≤ w'.heap.size := (by have h := hb.size; (try simp at h); omega))); obtain ⟨hc, hf⟩ := bcell hb; skip; clear hb)
    refine (CS.out _ (by exact HH.out.below (by repeat (first | exact Below.refl _ _ | assumption | apply Below.drew | apply below_drewN | (refine Below.alloc ?_ (by first | omega | (simp; done) | (simp; omega)) _) | (refine Below.setCell ?_ (by first | omega | (simp; done) | (simp; omega)) _))))).mono ?_
    rintro e w2 ⟨rfl, hb2⟩
    have B2 := Lib.hid (Below.thenn hB hb2 hB.size)
    clear hc hf hb2
    go_wp2_with fail
    have T2 := Lib.hid (Blk.new w2 115 #[.int .i64 z, .int .i64 l])
    have B3 := Lib.hid (B2.out.alloc B2.out.size (.cells #[.int .i64 z, .int .i64 l] 115))
    generalize w2.alloc (.cells #[.int .i64 z, .int .i64 l] 115) = v2 at *
    have hq := B2.out.size
    generalize w2.heap.size = q at *
    refine (CL.out v2).mono ?_
    rintro e w3 ⟨rfl, hb3⟩
    have T3 := Lib.hid (T2.out.below hb3 T2.out.lt)
    have B4 := Lib.hid (Below.thenn B3.out hb3 B3.out.size)
    have t0 := T3.out.cell 0
    have t1 := T3.out.cell 1
    have f0 := T3.out.frozen 0
    have f1 := T3.out.frozen 1
    simp at t0 t1
    clear hb3
    go_wp2_with fail
    have T5 := (T3.out.set_ 0 (.int .i64 (redN z l))).set_ 1 (.int .i64 (redD z l))
    have B5 := Lib.hid ((B4.out.setCell (p := ⟨q, 0, none⟩) hq (.int .i64 (redN z l))).setCell (p := ⟨q, 1, none⟩) hq (.int .i64 (redD z l)))
    have s0 := T5.cell 0
    have s1 := T5.cell 1
    have hlt := T5.lt
    simp at s0 s1
    clear t0 t1 f0 f1 T2 T3 T5 hB
    generalize (w3.setCell ⟨q, 0, none⟩ (.int .i64 (redN z l))).setCell ⟨q, 1, none⟩ (.int .i64 (redD z l)) = v5 at *
    have hB := B5.out
    (refine wp_region_ext (by kernel_rfl) (by kernel_rfl) ?_; have hxe := ext_cells; (repeat (go_big_quiet_step (fail))); refine wpQuiet_nil ?_; intro w' hw'; obtain ⟨nx, hw''⟩ := hw'; have hbx := ext_out hw''; clear hw'' nx hxe; have hB : Below w.heap.size w w' := Below.thenn (by repeat (first | exact Below.refl _ _ | assumption | apply Below.drew | apply below_drewN | (refine Below.alloc ?_ (by first | omega | (simp; done) | (simp; omega)) _) | (refine Below.setCell ?_ (by first | omega | (simp; done) | (simp; omega)) _))) hbx (by first | omega | (simp; done) | (simp; omega)); have hz : w.heap.size ≤ w'.heap.size := hB.size; obtain ⟨hc, hf⟩ := bcell hbx; clear hbx)
    go_wp2_with fail
    go_ret3
    exact ⟨rfl, (by repeat (first | exact Below.refl _ _ | assumption | apply Below.drew | apply below_drewN | (refine Below.alloc ?_ (by first | omega | (simp; done) | (simp; omega)) _) | (refine Below.setCell ?_ (by first | omega | (simp; done) | (simp; omega)) _)))⟩
set_option maxHeartbeats 2000000 in
theorem spec_ChordAt (A : Option Addr) (n c : Nat) (rows : List (List Int)) (place : Int) (w : World) (h : RdL w A n rows) (hm : n ≤ 1048577) :
    Calls Try.prog 36 #[.slice A n c, .int .i64 place] w (Ret w (.tuple #[.int .i64 (cqN rows place), .int .i64 (cqD rows place), .bool (onOk rows place)])) := by
  have ci := fun w' (h' : RdL w' A n rows) => spec_l2On A n c rows place w' h' hm
  have hB : Below w.heap.size w w := Below.refl _ _
  rcases ho : onOk rows place with _ | _
  · rw [ho] at ci
    rw [(cq_no ho).1, (cq_no ho).2]
    have CI := Lib.hid ci
    have HH := Lib.hid h
    clear ci ho h
    go_enter Try.func36, Try.ntmps36
    go_wp2_with (go_at_call 116; refine (CI.out _ (by exact HH.out.below (by repeat (first | exact Below.refl _ _ | assumption | apply Below.drew | apply below_drewN | (refine Below.alloc ?_ (by first | omega | (simp; done) | (simp; omega)) _) | (refine Below.setCell ?_ (by first | omega | (simp; done) | (simp; omega)) _))))).mono ?_; rintro e w' ⟨rfl, hb⟩; have hB : Below w.heap.size w w' := Below.thenn (by repeat (first | exact Below.refl _ _ | assumption | apply Below.drew | apply below_drewN | (refine Below.alloc ?_ (by first | omega | (simp; done) | (simp; omega)) _) | (refine Below.setCell ?_ (by first | omega | (simp; done) | (simp; omega)) _))) hb (by first | omega | (simp; done) | (simp; omega)); have hz : w.heap.size ≤ w'.heap.size := hB.size; (try (have hz1 : w.heap.size + 1 ≤ w'.heap.size := (by have h := hb.size; (try simp at h); omega))); obtain ⟨hc, hf⟩ := bcell hb; skip; clear hb)
    go_ret3
    exact ⟨rfl, (by repeat (first | exact Below.refl _ _ | assumption | apply Below.drew | apply below_drewN | (refine Below.alloc ?_ (by first | omega | (simp; done) | (simp; omega)) _) | (refine Below.setCell ?_ (by first | omega | (simp; done) | (simp; omega)) _)))⟩
  · rw [ho] at ci
    have cs := fun w' (h' : RdL w' A n rows) => spec_l2Chord A n c rows place w' h' hm ho
    obtain ⟨q1, q2⟩ := ch_in ho
    rw [(cq_yes ho).1, (cq_yes ho).2]
    generalize chN rows place = z at *
    generalize lL rows place = l at *
    have cl := fun w' => spec_l2Reduce z l w' (by omega) (by omega)
    have CI := Lib.hid ci
    have CS := Lib.hid cs
    have CL := Lib.hid cl
    have HH := Lib.hid h
    clear ci cs cl ho h
    go_enter Try.func36, Try.ntmps36
    go_wp2_with (first | (go_at_call 116; refine (CI.out _ (by exact HH.out.below (by repeat (first | exact Below.refl _ _ | assumption | apply Below.drew | apply below_drewN | (refine Below.alloc ?_ (by first | omega | (simp; done) | (simp; omega)) _) | (refine Below.setCell ?_ (by first | omega | (simp; done) | (simp; omega)) _))))).mono ?_; rintro e w' ⟨rfl, hb⟩; have hB : Below w.heap.size w w' := Below.thenn (by repeat (first | exact Below.refl _ _ | assumption | apply Below.drew | apply below_drewN | (refine Below.alloc ?_ (by first | omega | (simp; done) | (simp; omega)) _) | (refine Below.setCell ?_ (by first | omega | (simp; done) | (simp; omega)) _))) hb (by first | omega | (simp; done) | (simp; omega)); have hz : w.heap.size ≤ w'.heap.size := hB.size; (try (have hz1 : w.heap.size + 1 ≤ w'.heap.size := (by have h := hb.size; (try simp at h); omega))); obtain ⟨hc, hf⟩ := bcell hb; skip; clear hb) | (go_at_call 117; refine (CS.out _ (by exact HH.out.below (by repeat (first | exact Below.refl _ _ | assumption | apply Below.drew | apply below_drewN | (refine Below.alloc ?_ (by first | omega | (simp; done) | (simp; omega)) _) | (refine Below.setCell ?_ (by first | omega | (simp; done) | (simp; omega)) _))))).mono ?_; rintro e w' ⟨rfl, hb⟩; have hB : Below w.heap.size w w' := Below.thenn (by repeat (first | exact Below.refl _ _ | assumption | apply Below.drew | apply below_drewN | (refine Below.alloc ?_ (by first | omega | (simp; done) | (simp; omega)) _) | (refine Below.setCell ?_ (by first | omega | (simp; done) | (simp; omega)) _))) hb (by first | omega | (simp; done) | (simp; omega)); have hz : w.heap.size ≤ w'.heap.size := hB.size; (try (have hz1 : w.heap.size + 1 ≤ w'.heap.size := (by have h := hb.size; (try simp at h); omega))); obtain ⟨hc, hf⟩ := bcell hb; skip; clear hb) | (go_at_call 104; refine ((CL.out _).mono (fun _ _ hq => hq.ret)).mono ?_; rintro e w' ⟨rfl, hb⟩; have hB : Below w.heap.size w w' := Below.thenn (by repeat (first | exact Below.refl _ _ | assumption | apply Below.drew | apply below_drewN | (refine Below.alloc ?_ (by first | omega | (simp; done) | (simp; omega)) _) | (refine Below.setCell ?_ (by first | omega | (simp; done) | (simp; omega)) _))) hb (by first | omega | (simp; done) | (simp; omega)); have hz : w.heap.size ≤ w'.heap.size := hB.size; (try (have hz1 : w.heap.size + 1 ≤ w'.heap.size := (by have h := hb.size; (try simp at h); omega))); obtain ⟨hc, hf⟩ := bcell hb; skip; clear hb))
    go_ret3
    exact ⟨rfl, (by repeat (first | exact Below.refl _ _ | assumption | apply Below.drew | apply below_drewN | (refine Below.alloc ?_ (by first | omega | (simp; done) | (simp; omega)) _) | (refine Below.setCell ?_ (by first | omega | (simp; done) | (simp; omega)) _)))⟩
def stV (rows : List (List Int)) : List Int := if lineOk rows = true then stL rows rows.length else []
theorem st_no {rows : List (List Int)} (h : lineOk rows = false) : stV rows = [] := by simp [stV, h]
theorem st_yes {rows : List (List Int)} (h : lineOk rows = true) : stV rows = stL rows rows.length := by simp [stV, h]
set_option maxRecDepth 100000 in
set_option maxHeartbeats 4000000 in
theorem impl_StationsOf (A : Option Addr) (n c : Nat) (rows : List (List Int)) (w : World) (h : RdL w A n rows) (hm : n ≤ 1048577) :
    Calls Try.prog 28 #[.slice A n c] w (RetSB w (stV rows) (lineOk rows)) := by
  have ci := fun w' (h' : RdL w' A n rows) => impl_IsLine A n c rows w' h' hm
  have hB : Below w.heap.size w w := Below.refl _ _
  rcases ho : lineOk rows with _ | _
  · rw [st_no ho]
    rw [ho] at ci
    have CI := Lib.hid ci
    have HH := Lib.hid h
    clear ci ho h
    go_enter Try.func28, Try.ntmps28
    go_wp2_with (go_at_call 107; refine (CI.out _ (by exact HH.out.below (by repeat (first | exact Below.refl _ _ | assumption | apply Below.drew | apply below_drewN | (refine Below.alloc ?_ (by first | omega | (simp; done) | (simp; omega)) _) | (refine Below.setCell ?_ (by first | omega | (simp; done) | (simp; omega)) _))))).mono ?_; rintro e w' ⟨rfl, hb⟩; have hB : Below w.heap.size w w' := Below.thenn (by repeat (first | exact Below.refl _ _ | assumption | apply Below.drew | apply below_drewN | (refine Below.alloc ?_ (by first | omega | (simp; done) | (simp; omega)) _) | (refine Below.setCell ?_ (by first | omega | (simp; done) | (simp; omega)) _))) hb (by first | omega | (simp; done) | (simp; omega)); have hz : w.heap.size ≤ w'.heap.size := hB.size; (try (have hz1 : w.heap.size + 1 ≤ w'.heap.size := (by have h := hb.size; (try simp at h); omega))); obtain ⟨hc, hf⟩ := bcell hb; skip; clear hb)
    go_ret2
    exact RetSB.nil (by repeat (first | exact Below.refl _ _ | assumption | apply Below.drew | apply below_drewN | (refine Below.alloc ?_ (by first | omega | (simp; done) | (simp; omega)) _) | (refine Below.setCell ?_ (by first | omega | (simp; done) | (simp; omega)) _)))
  · have hn := h.2.1
    rw [st_yes ho, hn]
    have hhi := (lineOk_line ho).hi
    rw [ho] at ci
    rw [hn] at hhi
    have CI := Lib.hid ci
    have HH := Lib.hid h
    clear ci ho h hn
    go_enter Try.func28, Try.ntmps28
    go_wp2_with (go_at_call 107; refine (CI.out _ (by exact HH.out.below (by repeat (first | exact Below.refl _ _ | assumption | apply Below.drew | apply below_drewN | (refine Below.alloc ?_ (by first | omega | (simp; done) | (simp; omega)) _) | (refine Below.setCell ?_ (by first | omega | (simp; done) | (simp; omega)) _))))).mono ?_; rintro e w' ⟨rfl, hb⟩; have hB : Below w.heap.size w w' := Below.thenn (by repeat (first | exact Below.refl _ _ | assumption | apply Below.drew | apply below_drewN | (refine Below.alloc ?_ (by first | omega | (simp; done) | (simp; omega)) _) | (refine Below.setCell ?_ (by first | omega | (simp; done) | (simp; omega)) _))) hb (by first | omega | (simp; done) | (simp; omega)); have hz : w.heap.size ≤ w'.heap.size := hB.size; (try (have hz1 : w.heap.size + 1 ≤ w'.heap.size := (by have h := hb.size; (try simp at h); omega))); obtain ⟨hc, hf⟩ := bcell hb; skip; clear hb)
    have B1 := Lib.hid hB
    clear hB hc hf hz
    go_loopg [4, 13] n (fun g out i wr => ∃ (k : Nat) (A2 : Option Addr) (m c2 : Nat), k ≤ n ∧ n ≤ k + g ∧ m ≤ k ∧ out = .slice A2 m c2 ∧ i = .int .i64 k ∧ Hid (Below w.heap.size w wr) ∧ w.heap.size ≤ wr.heap.size ∧ Hid (Ow wr w.heap.size (.slice A2 m c2) (stL rows k)))
    case atStart => exact ⟨0, _, 0, 0, by omega, by omega, by omega, rfl, rfl, Lib.hid (B1.out.alloc B1.out.size _), (by have := B1.out.size; simp; omega), (show Ow _ _ _ _ from Ow.lit0 _ _ B1.out.size)⟩
    case round =>
      obtain ⟨k, A2, m, c2, hk1, hk2, hmk, rfl, rfl, HB, hzr, HO⟩ := hrel
      have HL := Lib.hid HO.out.len
      by_cases hlt : k < n
      · obtain ⟨b, off, rfl, hb, d0, d1, d2⟩ := HH.out.rowN (k := k) hlt
        have c0 := (HB.out.cell (p := ⟨b, off + k * 3, none⟩) hb).trans d0
        have c1 := (HB.out.cell (p := ⟨b, off + k * 3 + 1, none⟩) hb).trans d1
        have c2' := (HB.out.cell (p := ⟨b, off + k * 3 + 2, none⟩) hb).trans d2
        have HT := Lib.hid (fun hh => stL_take (rows := rows) (k := k) hh)
        have HK := Lib.hid (fun hh => stL_keep (rows := rows) (k := k) hh)
        generalize atN rows k = x0 at *
        generalize htN rows k = x1 at *
        generalize stN rows k = x2 at *
        have hbr : b < wr.heap.size := Nat.lt_of_lt_of_le hb HB.out.size
        clear d0 d1 d2
        by_cases ht : x2 = 1
        · have hd : decide (x2 = 1) = true := decide_eq_true ht
          rw [hd] at c2'
          have HN := Lib.hid (HT.out ht)
          clear ht hd
          have O2 := Lib.hid (HO.out.below ((Below.refl wr.heap.size wr).alloc (Nat.le_refl _) (.cells #[.int .i64 x0, .int .i64 x1, .bool true] 51)))
          have hz2 : w.heap.size ≤ (wr.alloc (.cells #[.int .i64 x0, .int .i64 x1, .bool true] 51)).heap.size := by simp; omega
          have hl2 : (stL rows k).length < 1099511627776 := by have := HL.out; omega
          have hxs : (wr.alloc (.cells #[.int .i64 x0, .int .i64 x1, .bool true] 51)).heap.size = wr.heap.size + 1 := by simp
          go_wp2_with (at_builtin; go_loud (refine wp_app_int rfl (.tmp 20) (.tmp 22) rfl (wr.alloc (.cells #[.int .i64 x0, .int .i64 x1, .bool true] 51)) w.heap.size (.slice A2 m c2) (stL rows k) (k : Int) rfl O2.out ?hx hl2 hz2 ?_); (case hx => rw [hxs]; rfl); intro A5 c5 w5 hown1 hb1; have HO5 := Lib.hid hown1; have HB5 := Lib.hid hb1; clear hown1 hb1)
          go_roundg (n - (k + 1))
          case measure => omega
          case rel => exact ⟨k + 1, A5, (stL rows k ++ [(k : Int)]).length, c5, by omega, by omega, (by have := HL.out; simp; omega), (by simp), by go_num, Lib.hid (Below.trans (HB.out.alloc hzr _) HB5.out), (by have := HB5.out.size; simp at this; omega), (show Ow _ _ _ _ by rw [HN.out]; exact HO5.out)⟩
        · have hd : decide (x2 = 1) = false := decide_eq_false ht
          rw [hd] at c2'
          have HN := Lib.hid (HK.out ht)
          clear ht hd
          go_wp2_with fail
          go_roundg (n - (k + 1))
          case measure => omega
          case rel => exact ⟨k + 1, A2, m, c2, by omega, by omega, by omega, rfl, by go_num, Lib.hid (HB.out.alloc hzr _), (by simp; omega), (show Ow _ _ _ _ by rw [HN.out]; exact HO.out.below ((Below.refl wr.heap.size wr).alloc (Nat.le_refl _) _))⟩
      · obtain rfl : k = n := by omega
        go_wp2_with fail
        go_ret2
        have e := HL.out
        subst e
        exact ⟨A2, c2, rfl, HO.out, HB.out⟩
set_option maxRecDepth 100000 in
set_option maxHeartbeats 4000000 in
theorem spec_StationsOf (A : Option Addr) (n c : Nat) (rows : List (List Int)) (w : World) (h : RdL w A n rows) (hm : n ≤ 1048577) :
    Calls Try.prog 29 #[.slice A n c] w (RetSB w (stV rows) (lineOk rows)) := by
  have ci := fun w' (h' : RdL w' A n rows) => spec_l2Line A n c rows w' h' hm
  have hB : Below w.heap.size w w := Below.refl _ _
  rcases ho : lineOk rows with _ | _
  · rw [st_no ho]
    rw [ho] at ci
    have CI := Lib.hid ci
    have HH := Lib.hid h
    clear ci ho h
    go_enter Try.func29, Try.ntmps29
    go_wp2_with (go_at_call 111; refine (CI.out _ (by exact HH.out.below (by repeat (first | exact Below.refl _ _ | assumption | apply Below.drew | apply below_drewN | (refine Below.alloc ?_ (by first | omega | (simp; done) | (simp; omega)) _) | (refine Below.setCell ?_ (by first | omega | (simp; done) | (simp; omega)) _))))).mono ?_; rintro e w' ⟨rfl, hb⟩; have hB : Below w.heap.size w w' := Below.thenn (by repeat (first | exact Below.refl _ _ | assumption | apply Below.drew | apply below_drewN | (refine Below.alloc ?_ (by first | omega | (simp; done) | (simp; omega)) _) | (refine Below.setCell ?_ (by first | omega | (simp; done) | (simp; omega)) _))) hb (by first | omega | (simp; done) | (simp; omega)); have hz : w.heap.size ≤ w'.heap.size := hB.size; (try (have hz1 : w.heap.size + 1 ≤ w'.heap.size := (by have h := hb.size; (try simp at h); omega))); obtain ⟨hc, hf⟩ := bcell hb; have HO0 := Lib.hid ((Ow.lit0 w w.heap.size (Nat.le_refl _)).below hb); clear hb)
    go_ret2
    exact ⟨_, 0, rfl, HO0.out, (by repeat (first | exact Below.refl _ _ | assumption | apply Below.drew | apply below_drewN | (refine Below.alloc ?_ (by first | omega | (simp; done) | (simp; omega)) _) | (refine Below.setCell ?_ (by first | omega | (simp; done) | (simp; omega)) _)))⟩
  · have hn := h.2.1
    rw [st_yes ho, hn]
    have hhi := (lineOk_line ho).hi
    rw [ho] at ci
    rw [hn] at hhi
    have CI := Lib.hid ci
    have HH := Lib.hid h
    clear ci ho h hn
    go_enter Try.func29, Try.ntmps29
    go_wp2_with (go_at_call 111; refine (CI.out _ (by exact HH.out.below (by repeat (first | exact Below.refl _ _ | assumption | apply Below.drew | apply below_drewN | (refine Below.alloc ?_ (by first | omega | (simp; done) | (simp; omega)) _) | (refine Below.setCell ?_ (by first | omega | (simp; done) | (simp; omega)) _))))).mono ?_; rintro e w' ⟨rfl, hb⟩; have hB : Below w.heap.size w w' := Below.thenn (by repeat (first | exact Below.refl _ _ | assumption | apply Below.drew | apply below_drewN | (refine Below.alloc ?_ (by first | omega | (simp; done) | (simp; omega)) _) | (refine Below.setCell ?_ (by first | omega | (simp; done) | (simp; omega)) _))) hb (by first | omega | (simp; done) | (simp; omega)); have hz : w.heap.size ≤ w'.heap.size := hB.size; (try (have hz1 : w.heap.size + 1 ≤ w'.heap.size := (by have h := hb.size; (try simp at h); omega))); obtain ⟨hc, hf⟩ := bcell hb; have HO0 := Lib.hid ((Ow.lit0 w w.heap.size (Nat.le_refl _)).below hb); clear hb)
    have B1 := Lib.hid hB
    clear hB hc hf hz
    go_loopg [4, 5] n (fun g out i wr => ∃ (k : Nat) (A2 : Option Addr) (m c2 : Nat), k ≤ n ∧ n ≤ k + g ∧ m ≤ k ∧ out = .slice A2 m c2 ∧ i = .int .i64 k ∧ Hid (Below w.heap.size w wr) ∧ w.heap.size ≤ wr.heap.size ∧ Hid (Ow wr w.heap.size (.slice A2 m c2) (stL rows k)))
    case atStart => exact ⟨0, _, 0, 0, by omega, by omega, by omega, rfl, rfl, B1, B1.out.size, HO0⟩
    case round =>
      obtain ⟨k, A2, m, c2, hk1, hk2, hmk, rfl, rfl, HB, hzr, HO⟩ := hrel
      have HL := Lib.hid HO.out.len
      by_cases hlt : k < n
      · obtain ⟨b, off, rfl, hb, d0, d1, d2⟩ := HH.out.rowN (k := k) hlt
        have c2' := (HB.out.cell (p := ⟨b, off + k * 3 + 2, none⟩) hb).trans d2
        have HT := Lib.hid (fun hh => stL_take (rows := rows) (k := k) hh)
        have HK := Lib.hid (fun hh => stL_keep (rows := rows) (k := k) hh)
        generalize stN rows k = x2 at *
        have hbr : b < wr.heap.size := Nat.lt_of_lt_of_le hb HB.out.size
        clear d0 d1 d2
        by_cases ht : x2 = 1
        · have hd : decide (x2 = 1) = true := decide_eq_true ht
          rw [hd] at c2'
          have HN := Lib.hid (HT.out ht)
          clear ht hd
          go_wp2_with (at_builtin; refine wp_app_int rfl (.tmp 22) (.tmp 24) rfl _ w.heap.size _ (stL rows k) (k : Int) rfl HO.out rfl (by have := HL.out; omega) hzr ?_; intro A5 c5 w5 hown1 hb1; have HO5 := Lib.hid hown1; have HB5 := Lib.hid hb1; clear hown1 hb1)
          go_roundg (n - (k + 1))
          case measure => omega
          case rel => exact ⟨k + 1, A5, (stL rows k ++ [(k : Int)]).length, c5, by omega, by omega, (by have := HL.out; simp; omega), (by simp), by go_num, Lib.hid (Below.trans HB.out HB5.out), (by have := HB5.out.size; omega), (show Ow _ _ _ _ by rw [HN.out]; exact HO5.out)⟩
        · have hd : decide (x2 = 1) = false := decide_eq_false ht
          rw [hd] at c2'
          have HN := Lib.hid (HK.out ht)
          clear ht hd
          go_wp2_with fail
          go_roundg (n - (k + 1))
          case measure => omega
          case rel => exact ⟨k + 1, A2, m, c2, by omega, by omega, by omega, rfl, by go_num, HB, hzr, (show Ow _ _ _ _ by rw [HN.out]; exact HO.out)⟩
      · obtain rfl : k = n := by omega
        go_wp2_with fail
        go_ret2
        have e := HL.out
        subst e
        exact ⟨A2, c2, rfl, HO.out, HB.out⟩
end Go.Proofs.Ytjfmicemnoglkaa
