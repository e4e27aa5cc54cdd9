/- The brakes: the speeds of a set of brakes, the reference's. -/
import Derived.Test.YthijklidjdhkdaaBrkB
import Derived.Laws.BitsAllLaws
import Derived.Laws.BitsLemmas
namespace Go.Proofs.Ythijklidjdhkdaa
open Go.RowKit
set_option linter.unusedVariables false
set_option linter.unusedSimpArgs false

theorem spec_l10All (m p : Int) (A : Option Addr) (n c : Nat) (rows : List (List Int)) (wo : World) (h : RdR wo 2 A n rows) (hn : n ≤ 4) :
    Calls Try.prog 57 #[.agg #[.int .i64 m, .int .i64 p, .slice A n c]] wo (Ret wo (.int .i64 ((2 ^ n - 1 : Nat)))) := by
  go_enter Try.func57, Try.ntmps57
  (go_wp2_with fail; have hWV : Below wo.heap.size wo (wo.alloc (.cells #[.int .i64 m, .int .i64 p, .slice A n c] 29)) := (Below.refl _ _).alloc (Nat.le_refl _) _; have hV0 : wo.heap.size < (wo.alloc (.cells #[.int .i64 m, .int .i64 p, .slice A n c] 29)).heap.size := (by simp); have hv0 : (wo.alloc (.cells #[.int .i64 m, .int .i64 p, .slice A n c] 29)).cell? ⟨wo.heap.size, 0, none⟩ = some (.int .i64 m) := (by rw [cell_of_row _ _ _ _ _ _ (heap_alloc_new wo _)]; rfl); have hv1 : (wo.alloc (.cells #[.int .i64 m, .int .i64 p, .slice A n c] 29)).cell? ⟨wo.heap.size, 1, none⟩ = some (.int .i64 p) := (by rw [cell_of_row _ _ _ _ _ _ (heap_alloc_new wo _)]; rfl); have hv2 : (wo.alloc (.cells #[.int .i64 m, .int .i64 p, .slice A n c] 29)).cell? ⟨wo.heap.size, 2, none⟩ = some (.slice A n c) := (by rw [cell_of_row _ _ _ _ _ _ (heap_alloc_new wo _)]; rfl); have HV1 : Hid (wo.heap.size + 1 = (wo.alloc (.cells #[.int .i64 m, .int .i64 p, .slice A n c] 29)).heap.size) := (show _ = _ by simp); generalize wo.alloc (.cells #[.int .i64 m, .int .i64 p, .slice A n c] 29) = w at hWV hV0 HV1 hv0 hv1 hv2 ⊢; have hr := h.below hWV; have hB : Below w.heap.size w w := Below.refl _ _; have hwz : wo.heap.size ≤ w.heap.size := hWV.size)
  go_wp2_with fail
  go_ret
  refine ⟨ret_int ?_, Below.thenn hWV hB hWV.size⟩
  rcases (by omega : n = 0 ∨ n = 1 ∨ n = 2 ∨ n = 3 ∨ n = 4) with rfl | rfl | rfl | rfl | rfl <;> first | decide | simp [wrap64]
theorem ofInt_i64 (a : Nat) (ha : a < 9223372036854775808) : (BitVec.ofInt 64 (a : Int)).toNat = a := by
  rw [BitVec.ofInt_natCast, BitVec.toNat_ofNat]; exact Nat.mod_eq_of_lt (by omega)
theorem i64_and_nat (a b : Nat) (ha : a < 9223372036854775808) (hb : b < 9223372036854775808) : bits .and .i64 (a : Int) (b : Int) = ((a &&& b : Nat) : Int) := by
  have hx : a &&& b < 2 ^ 63 := Nat.and_lt_two_pow _ (by omega)
  show IntKind.i64.wrap ((BitVec.ofInt 64 (a : Int) &&& BitVec.ofInt 64 (b : Int)).toNat : Int) = _
  rw [BitVec.toNat_and, ofInt_i64 a ha, ofInt_i64 b hb, IntKind.wrap_i64]
  omega
theorem bit_and (set i : Nat) (h : set < 65536) : bits .and .i64 ((set : Int) / 2 ^ i) 1 = ((set / 2 ^ i % 2 : Nat) : Int) := by
  have e : ((set : Int) / 2 ^ i) = ((set / 2 ^ i : Nat) : Int) := by norm_cast
  have hle : set / 2 ^ i ≤ set := Nat.div_le_self _ _
  rw [e, show (1 : Int) = ((1 : Nat) : Int) from rfl, i64_and_nat _ _ (by omega) (by omega), Nat.and_one_is_mod]
theorem sel_yes {set i : Nat} {rows : List (List Int)} {r : List Int} (h : rows[i]? = some r) (hb : set / 2 ^ i % 2 = 1) : sel set i (rows.drop i) = r :: sel set (i + 1) (rows.drop (i + 1)) := by
  rw [drop_atI h]; simp [sel, hb]
theorem sel_no {set i : Nat} {rows : List (List Int)} {r : List Int} (h : rows[i]? = some r) (hb : ¬ set / 2 ^ i % 2 = 1) : sel set i (rows.drop i) = sel set (i + 1) (rows.drop (i + 1)) := by
  rw [drop_atI h]; simp [sel, hb]
theorem sel_end {set i n : Nat} {rows : List (List Int)} (h : rows.length = n) (hk : n ≤ i) : sel set i (rows.drop i) = [] := by rw [List.drop_of_length_le (by omega)]; rfl
theorem brkF_step {m p : Int} {rows : List (List Int)} {k : Nat} {v : Int} (hk : k < 60) (hv : 0 < v) : brkF m p rows (60 - k) k v = brkN m p rows k v :: brkF m p rows (60 - (k + 1)) ((k + 1 : Nat)) (brkN m p rows k v) := by
  rw [show 60 - k = (60 - (k + 1)) + 1 by omega]
  conv => lhs; unfold brkF
  rw [if_neg (by omega)]
  simp
theorem brkL_step {m p : Int} {rows : List (List Int)} {k : Nat} {v : Int} (hk : k < 60) (hv : 0 < v) : brkL m p rows (60 - k) k v = brkL m p rows (60 - (k + 1)) ((k + 1 : Nat)) (brkN m p rows k v) := by
  rw [show 60 - k = (60 - (k + 1)) + 1 by omega]
  conv => lhs; unfold brkL
  rw [if_neg (by omega)]
  simp
theorem brkF_stop {m p : Int} {rows : List (List Int)} {k : Nat} {v : Int} (h : ¬ (k < 60 ∧ 0 < v)) : brkF m p rows (60 - k) k v = [] := by
  rcases Nat.lt_or_ge k 60 with hk | hk
  · rw [show 60 - k = (60 - (k + 1)) + 1 by omega]
    unfold brkF
    rw [if_pos (by omega)]
  · rw [show 60 - k = 0 by omega]; rfl
theorem brkL_stop {m p : Int} {rows : List (List Int)} {k : Nat} {v : Int} (h : ¬ (k < 60 ∧ 0 < v)) : brkL m p rows (60 - k) k v = v := by
  rcases Nat.lt_or_ge k 60 with hk | hk
  · rw [show 60 - k = (60 - (k + 1)) + 1 by omega]
    unfold brkL
    rw [if_pos (by omega)]
  · rw [show 60 - k = 0 by omega]; rfl
theorem Ow.lit1H (w : World) (B g : Nat) (v : Int) (hB : B ≤ w.heap.size) (hg : g = w.heap.size) : Ow (w.alloc (.cells #[.int .i64 v] 3)) B (.slice (some ⟨g, 0, none⟩) [v].length 1) [v] := by
  subst hg
  exact Ow.lit w [v] (by simp [maxLen]) hB
theorem ret_sbool {A : Option Addr} {n m c : Nat} {b b' : Bool} (h : n = m) (h' : b = b') : Ending.returned (.tuple #[.slice A n c, .bool b]) = .returned (.tuple #[.slice A m c, .bool b']) := by rw [h, h']
set_option maxRecDepth 100000 in
set_option maxHeartbeats 4000000 in
theorem spec_l10Speeds (m p : Int) (A : Option Addr) (n c set : Nat) (rows : List (List Int)) (v0 : Int) (wo : World) (h : RdR wo 2 A n rows) (hok : drvOk m p rows = true) (hv0 : 0 ≤ v0) (hv1 : v0 ≤ 100) (hset : set < 65536) :
    Calls Try.prog 60 #[.agg #[.int .i64 m, .int .i64 p, .slice A n c], .int .i64 v0, .int .i64 set] wo (RetSB wo (brkS m p (sel set 0 rows) v0) (brkK m p (sel set 0 rows) v0)) := by
  have hl := Lib.hid h.2.2
  obtain ⟨⟨⟨m0, m1⟩, ⟨p0, p1⟩, hn1⟩, hal⟩ := drvOk_iff.1 hok
  have HA := Lib.hid hal
  have hn : n ≤ 4 := by have := hl.out; omega
  have hsl := sel_len set 0 rows
  have HK := Lib.hid (sel_ok set 0 hok)
  generalize hsr : sel set 0 rows = sr at HK hsl ⊢
  have HSR := Lib.hid hsr
  have hq0 : 0 ≤ v0 := hv0
  clear hal hn1 hsl hsr hok hv0
  go_enter Try.func60, Try.ntmps60
  (go_wp2_with fail; have hWV : Below wo.heap.size wo (wo.alloc (.cells #[.int .i64 m, .int .i64 p, .slice A n c] 29)) := (Below.refl _ _).alloc (Nat.le_refl _) _; have hV0 : wo.heap.size < (wo.alloc (.cells #[.int .i64 m, .int .i64 p, .slice A n c] 29)).heap.size := (by simp); have hv0 : (wo.alloc (.cells #[.int .i64 m, .int .i64 p, .slice A n c] 29)).cell? ⟨wo.heap.size, 0, none⟩ = some (.int .i64 m) := (by rw [cell_of_row _ _ _ _ _ _ (heap_alloc_new wo _)]; rfl); have hv1 : (wo.alloc (.cells #[.int .i64 m, .int .i64 p, .slice A n c] 29)).cell? ⟨wo.heap.size, 1, none⟩ = some (.int .i64 p) := (by rw [cell_of_row _ _ _ _ _ _ (heap_alloc_new wo _)]; rfl); have hv2 : (wo.alloc (.cells #[.int .i64 m, .int .i64 p, .slice A n c] 29)).cell? ⟨wo.heap.size, 2, none⟩ = some (.slice A n c) := (by rw [cell_of_row _ _ _ _ _ _ (heap_alloc_new wo _)]; rfl); have HV1 : Hid (wo.heap.size + 1 = (wo.alloc (.cells #[.int .i64 m, .int .i64 p, .slice A n c] 29)).heap.size) := (show _ = _ by simp); generalize wo.alloc (.cells #[.int .i64 m, .int .i64 p, .slice A n c] 29) = w at hWV hV0 HV1 hv0 hv1 hv2 ⊢; have hr := h.below hWV; have hB : Below w.heap.size w w := Below.refl _ _; have hwz : wo.heap.size ≤ w.heap.size := hWV.size)
  go_wp2_with fail
  go_loopg [1, 8, 9] 60 (fun gg s1 s8 s9 wr => ∃ (k : Nat) (v : Int) (A1 : Option Addr) (c1 : Nat) (zs : List Int), k ≤ 60 ∧ 60 ≤ k + gg ∧ s1 = .int .i64 v ∧ s9 = .int .i64 k ∧ s8 = .slice A1 zs.length c1 ∧ 0 ≤ v ∧ v ≤ 100 + 1000000 * k ∧ zs.length ≤ k + 1 ∧ Below w.heap.size w wr ∧ w.heap.size ≤ wr.heap.size ∧
    Hid (Ow wr w.heap.size (.slice A1 zs.length c1) zs ∧ zs ++ brkF m p sr (60 - k) k v = brkS m p sr v0 ∧ brkL m p sr (60 - k) k v = brkL m p sr 60 0 v0))
  case atStart => exact ⟨0, v0, some ⟨wo.heap.size + 1, 0, none⟩, 1, [v0], by omega, by omega, rfl, rfl, rfl, hq0, by omega, by simp, (by repeat (first | exact Below.refl _ _ | assumption | apply Below.drew | apply below_drewN | (refine Below.alloc ?_ (by first | omega | (simp; done) | (simp; omega)) _) | (refine Below.setCell ?_ (by first | omega | (simp; done) | (simp; omega)) _))), by simp, ⟨Ow.lit1H w _ _ v0 (Nat.le_refl _) HV1.out, rfl, rfl⟩⟩
  case round =>
    obtain ⟨k, v, A1, c1, zs, hk1, hk2, rfl, rfl, rfl, hvz, hvt, hzl, hBr, hzr, ha⟩ := hrel
    have a0 := (hBr.cell (p := ⟨wo.heap.size, 0, none⟩) hV0).trans hv0
    have a1 := (hBr.cell (p := ⟨wo.heap.size, 1, none⟩) hV0).trans hv1
    have a2 := (hBr.cell (p := ⟨wo.heap.size, 2, none⟩) hV0).trans hv2
    have hor := Nat.lt_of_lt_of_le hV0 hzr
    by_cases hkv : k < 60 ∧ 0 < v
    · have hk6 := hkv.1
      have hvp := hkv.2
      have HF := Lib.hid (brkF_step (m := m) (p := p) (rows := sr) hk6 hvp)
      have HL := Lib.hid (brkL_step (m := m) (p := p) (rows := sr) hk6 hvp)
      clear hkv hv0 hv1 hv2
      go_wp2_with fail
      go_loopg [10, 11] n (fun gg s10 s11 wq => ∃ (i : Nat) (z : Int), i ≤ n ∧ n ≤ i + gg ∧ s11 = .int .i64 i ∧ s10 = .int .i64 z ∧ z ≤ p ∧ p - 100000 * i ≤ z ∧ wr = wq ∧ Hid (frcF k z (sel set i (rows.drop i)) = frcF k p sr))
      case atStart => exact ⟨0, p, by omega, by omega, rfl, rfl, by omega, by omega, rfl, (by show _ = _; rw [List.drop_zero, HSR.out])⟩
      case round =>
        obtain ⟨i, z, hi1, hi2, rfl, rfl, hzp, hzq, rfl, hf⟩ := hrel
        by_cases hlt : i < n
        · obtain ⟨b, off, x0, x1, rfl, hrw, hblt, c0, c1'⟩ := (hr.below hBr).row2 hlt
          have hx := brk_at HA.out hrw
          have x00 := hx.1.1
          have x01 := hx.1.2
          have HRW := Lib.hid hrw
          have HH := Lib.hid h
          have HHR := Lib.hid hr
          have hbit := bit_and set i hset
          clear hrw h hr hx
          by_cases hb1 : set / 2 ^ i % 2 = 1
          · rw [hb1] at hbit
            have HS := Lib.hid (sel_yes HRW.out hb1)
            clear hb1
            by_cases hd : x1 ≤ k
            · have HZ : Hid (frcF k (z - x0) (sel set (i + 1) (rows.drop (i + 1))) = frcF k p sr) := (show _ = _ by rw [← hf.out, HS.out, frcF_yes hd])
              go_wp2_with fail
              go_roundg (n - (i + 1))
              case measure => omega
              case rel => exact ⟨i + 1, z - x0, by omega, by omega, by go_num, rfl, by omega, by omega, rfl, HZ⟩
            · have HZ : Hid (frcF k z (sel set (i + 1) (rows.drop (i + 1))) = frcF k p sr) := (show _ = _ by rw [← hf.out, HS.out, frcF_no hd])
              go_wp2_with fail
              go_roundg (n - (i + 1))
              case measure => omega
              case rel => exact ⟨i + 1, z, by omega, by omega, by go_num, rfl, by omega, by omega, rfl, HZ⟩
          · have hb0 : set / 2 ^ i % 2 = 0 := by omega
            have HZ : Hid (frcF k z (sel set (i + 1) (rows.drop (i + 1))) = frcF k p sr) := (show _ = _ by rw [← hf.out, sel_no HRW.out hb1])
            rw [hb0] at hbit
            clear hb0 hb1
            go_wp2_with fail
            go_roundg (n - (i + 1))
            case measure => omega
            case rel => exact ⟨i + 1, z, by omega, by omega, by go_num, rfl, by omega, by omega, rfl, HZ⟩
        · have hz : z = frcF k p sr := by rw [← hf.out, sel_end hl.out (by omega)]; rfl
          have HN : Hid (max 0 (v + 10 * z / m) = brkN m p sr k v) := (show _ = _ by unfold brkN; rw [hz])
          have hnb := brkN_bd (k := k) HK.out hvz
          have CF := Lib.hid (fun w => spec_l10Floor (10 * z) m w (by omega) (by omega) m0 m1)
          have q0 := div_ge_10 (x := 10 * z) m0 (by omega)
          have q1 := div_le_10 (x := 10 * z) m0 (by omega)
          generalize 10 * z / m = q at CF HN q0 q1
          have CM := Lib.hid (fun w => HN.out ▸ spec_l1Most 0 (v + q) w)
          generalize brkN m p sr k v = V at CM HF HL hnb
          have V0 := hnb.1
          have V1 := hnb.2
          clear hz hnb HN
          go_wp2_with (first | (go_at_call 80; refine (CF.out _).mono ?_; rintro e w' ⟨rfl, rfl⟩) | (go_at_call 79; refine (CM.out _).mono ?_; rintro e w' ⟨rfl, rfl⟩) | (at_builtin; refine wp_app_int rfl (.tmp 63) (.tmp 65) rfl _ w.heap.size (.slice A1 zs.length c1) zs V rfl ha.out.1 rfl (by omega) hzr ?_; intro A2 c2 w1 hown1 hb1))
          go_roundg (60 - (k + 1))
          case measure => omega
          case rel => exact ⟨k + 1, V, A2, c2, zs ++ [V], by omega, by omega, rfl, by go_num, by simp, V0, by omega, by simp; omega, hBr.trans hb1, Nat.le_trans hzr hb1.size, ⟨hown1, by rw [List.append_assoc, ← ha.out.2.1, HF.out]; rfl, by rw [← ha.out.2.2, HL.out]⟩⟩
    · have HE := Lib.hid (brkF_stop (m := m) (p := p) (rows := sr) hkv)
      have HE2 := Lib.hid (brkL_stop (m := m) (p := p) (rows := sr) hkv)
      have hz0 : zs = brkS m p sr v0 := by have := ha.out.2.1; rw [HE.out, List.append_nil] at this; exact this
      have HO := Lib.hid ha.out.1
      have hb0 : (v == 0) = brkK m p sr v0 := by
        unfold brkK
        rw [← ha.out.2.2, HE2.out, Bool.eq_iff_iff]
        simp
        omega
      have HZ := Lib.hid hz0
      have HB0 := Lib.hid hb0
      clear hz0 hb0 ha
      by_cases hk6 : k < 60
      · have hvn : ¬ 0 < v := fun hh => hkv ⟨hk6, hh⟩
        clear hkv
        go_wp2_with fail
        go_ret2
        exact ⟨A1, c1, ret_sbool (by rw [HZ.out]) HB0.out, by rw [← HZ.out]; exact HO.out.base hwz, Below.thenn hWV hBr hwz⟩
      · clear hkv
        go_wp2_with fail
        go_ret2
        exact ⟨A1, c1, ret_sbool (by rw [HZ.out]) HB0.out, by rw [← HZ.out]; exact HO.out.base hwz, Below.thenn hWV hBr hwz⟩
end Go.Proofs.Ythijklidjdhkdaa
