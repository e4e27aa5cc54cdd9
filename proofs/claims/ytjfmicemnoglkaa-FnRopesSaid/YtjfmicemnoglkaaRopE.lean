/- Ropes: broken wires in windows, the worst window. -/
import Derived.Test.YtjfmicemnoglkaaRopD
namespace Go.Proofs.Ytjfmicemnoglkaa
open Go.RowKit
set_option linter.unusedVariables false
set_option linter.unusedSimpArgs false

theorem ret_two {a b a' b' : Int} (h : a = a') (h' : b = b') : Ending.returned (.tuple #[.int .i64 a, .int .i64 b]) = .returned (.tuple #[.int .i64 a', .int .i64 b']) := by rw [h, h']
theorem bw_zero (rows : List (List Int)) (lo hi : Int) : brW rows lo hi 0 = 0 := rfl
set_option maxRecDepth 100000 in
set_option maxHeartbeats 4000000 in
theorem impl_brokenWires (A : Option Addr) (n c : Nat) (rows : List (List Int)) (lo len : Int) (w : World) (h : RdR w 3 A n rows) (hm : n ≤ 15) (hw : Wires rows) (hlo : 0 ≤ lo ∧ lo ≤ 3000) (hlen : 1 ≤ len ∧ len ≤ 3000) :
    Calls Try.prog 143 #[.slice A n c, .int .i64 lo, .int .i64 len, .int .i64 (-1)] w (Ret w (.int .i64 (brW rows lo (lo + len - 1) n))) := by
  have hl := h.2.2
  have HBD := Lib.hid (fun (k : Nat) (hk : k ≤ n) => brW_bd hw (lo := lo) (hi := lo + len - 1) k (by omega))
  have HW := Lib.hid hw
  have HL := Lib.hid hl
  have u1 : IntKind.i64.wrap (lo + len) = lo + len := IntWalk.i64_in _ (by omega)
  have u2 : IntKind.i64.wrap (lo + len - 1) = lo + len - 1 := IntWalk.i64_in _ (by omega)
  have HY := Lib.hid (fun (k : Nat) (hh : inr (atR rows k) lo (lo + len - 1) = true) => brW_yes hh)
  have HN := Lib.hid (fun (k : Nat) (hh : inr (atR rows k) lo (lo + len - 1) = false) => brW_no hh)
  have HZ : Hid ((0 : Int) = brW rows lo (lo + len - 1) 0) := Lib.hid rfl
  generalize brW rows lo (lo + len - 1) = f at *
  clear hw hl
  go_enter Try.func143, Try.ntmps143
  go_wp2_with fail
  go_loopg [9, 14] n (fun gg s i wr => ∃ (k : Nat) (z : Int), k ≤ n ∧ n ≤ k + gg ∧ i = .int .i64 k ∧ s = .int .i64 z ∧ 0 ≤ z ∧ z ≤ 40 * (k : Int) ∧ Hid (Below w.heap.size w wr) ∧ Hid (z = f k))
  case atStart => exact ⟨0, 0, by omega, by omega, rfl, rfl, by omega, by omega, Lib.hid (Below.refl _ _), HZ⟩
  case round =>
    obtain ⟨k, z, hk1, hk2, rfl, rfl, hz0, hz1, HB, HS⟩ := hrel
    have hBr := HB.out
    have hzr := hBr.size
    by_cases hlt : k < n
    · obtain ⟨b, off, x0, x1, x2, rfl, hr, hblt, c0, c1, c2⟩ := h.row3 hlt
      rw [← hBr.cell (p := ⟨b, _, none⟩) hblt] at c0 c1 c2
      have hbr : b < wr.heap.size := by omega
      obtain ⟨e0, e2⟩ := atR_of hr
      have hwk := HW.out k (by have := HL.out; omega)
      have hy := HY.out k
      have hn := HN.out k
      have hbd := HBD.out (k + 1) (by omega)
      rw [e0] at hy hn hwk
      rw [e2] at hy hwk
      rcases hi : inr x0 lo (lo + len - 1) with _ | _
      · have hf := (hn hi).trans HS.out.symm
        have HF := Lib.hid hf
        have CI := Lib.hid (fun w => hi ▸ impl_within x0 lo (lo + len - 1) w)
        clear hy hn hf hi hr e0 e2 hbd
        go_wp2_with (go_at_call 98; refine (CI.out _).mono ?_; rintro e w' ⟨rfl, rfl⟩)
        go_roundg (n - (k + 1))
        case measure => omega
        case rel => exact ⟨k + 1, z, by omega, by omega, by go_num, rfl, by omega, by omega, Lib.hid (hBr.alloc hzr _), HF.out.symm⟩
      · have hf : f (k + 1) = z + x2 := by rw [hy hi, HS.out]
        rw [hf] at hbd
        have HF := Lib.hid hf
        have u3 : IntKind.i64.wrap (z + x2) = z + x2 := IntWalk.i64_in _ (by omega)
        have CI := Lib.hid (fun w => hi ▸ impl_within x0 lo (lo + len - 1) w)
        clear hy hn hf hi hr e0 e2
        go_wp2_with (go_at_call 98; refine (CI.out _).mono ?_; rintro e w' ⟨rfl, rfl⟩)
        go_roundg (n - (k + 1))
        case measure => omega
        case rel => exact ⟨k + 1, z + x2, by omega, by omega, by go_num, rfl, by omega, by omega, Lib.hid (hBr.alloc hzr _), HF.out.symm⟩
    · obtain rfl : k = n := by omega
      go_wp2_with fail
      go_ret
      exact ⟨ret_int HS.out, hBr⟩
set_option maxRecDepth 100000 in
set_option maxHeartbeats 4000000 in
theorem spec_l3Broken (A : Option Addr) (n c : Nat) (rows : List (List Int)) (lo len : Int) (w : World) (h : RdR w 3 A n rows) (hm : n ≤ 15) (hw : Wires rows) (hlo : 0 ≤ lo ∧ lo ≤ 3000) (hlen : 1 ≤ len ∧ len ≤ 3000) :
    Calls Try.prog 145 #[.slice A n c, .int .i64 lo, .int .i64 len, .int .i64 (-1)] w (Ret w (.int .i64 (brW rows lo (lo + len - 1) n))) := by
  have hl := h.2.2
  have HBD := Lib.hid (fun (k : Nat) (hk : k ≤ n) => brW_bd hw (lo := lo) (hi := lo + len - 1) k (by omega))
  have HW := Lib.hid hw
  have HL := Lib.hid hl
  have u1 : IntKind.i64.wrap (lo + len) = lo + len := IntWalk.i64_in _ (by omega)
  have u2 : IntKind.i64.wrap (lo + len - 1) = lo + len - 1 := IntWalk.i64_in _ (by omega)
  have HY := Lib.hid (fun (k : Nat) (hh : inr (atR rows k) lo (lo + len - 1) = true) => brW_yes hh)
  have HN := Lib.hid (fun (k : Nat) (hh : inr (atR rows k) lo (lo + len - 1) = false) => brW_no hh)
  have HZ : Hid ((0 : Int) = brW rows lo (lo + len - 1) 0) := Lib.hid rfl
  generalize brW rows lo (lo + len - 1) = f at *
  clear hw hl
  go_enter Try.func145, Try.ntmps145
  go_wp2_with fail
  go_loopg [9, 10] n (fun gg s i wr => ∃ (k : Nat) (z : Int), k ≤ n ∧ n ≤ k + gg ∧ i = .int .i64 k ∧ s = .int .i64 z ∧ 0 ≤ z ∧ z ≤ 40 * (k : Int) ∧ Hid (Below w.heap.size w wr) ∧ Hid (z = f k))
  case atStart => exact ⟨0, 0, by omega, by omega, rfl, rfl, by omega, by omega, Lib.hid (Below.refl _ _), HZ⟩
  case round =>
    obtain ⟨k, z, hk1, hk2, rfl, rfl, hz0, hz1, HB, HS⟩ := hrel
    have hBr := HB.out
    have hzr := hBr.size
    by_cases hlt : k < n
    · obtain ⟨b, off, x0, x1, x2, rfl, hr, hblt, c0, c1, c2⟩ := h.row3 hlt
      rw [← hBr.cell (p := ⟨b, _, none⟩) hblt] at c0 c1 c2
      have hbr : b < wr.heap.size := by omega
      obtain ⟨e0, e2⟩ := atR_of hr
      have hwk := HW.out k (by have := HL.out; omega)
      have hy := HY.out k
      have hn := HN.out k
      have hbd := HBD.out (k + 1) (by omega)
      rw [e0] at hy hn hwk
      rw [e2] at hy hwk
      rcases hi : inr x0 lo (lo + len - 1) with _ | _
      · have hf := (hn hi).trans HS.out.symm
        have HF := Lib.hid hf
        have CI := Lib.hid (fun w => hi ▸ spec_l1In x0 lo (lo + len - 1) w)
        clear hy hn hf hi hr e0 e2 hbd
        go_wp2_with (go_at_call 102; refine (CI.out _).mono ?_; rintro e w' ⟨rfl, rfl⟩)
        go_roundg (n - (k + 1))
        case measure => omega
        case rel => exact ⟨k + 1, z, by omega, by omega, by go_num, rfl, by omega, by omega, Lib.hid (hBr.alloc hzr _), HF.out.symm⟩
      · have hf : f (k + 1) = z + x2 := by rw [hy hi, HS.out]
        rw [hf] at hbd
        have HF := Lib.hid hf
        have u3 : IntKind.i64.wrap (z + x2) = z + x2 := IntWalk.i64_in _ (by omega)
        have CI := Lib.hid (fun w => hi ▸ spec_l1In x0 lo (lo + len - 1) w)
        clear hy hn hf hi hr e0 e2
        go_wp2_with (go_at_call 102; refine (CI.out _).mono ?_; rintro e w' ⟨rfl, rfl⟩)
        go_roundg (n - (k + 1))
        case measure => omega
        case rel => exact ⟨k + 1, z + x2, by omega, by omega, by go_num, rfl, by omega, by omega, Lib.hid (hBr.alloc hzr _), HF.out.symm⟩
    · obtain rfl : k = n := by omega
      go_wp2_with fail
      go_ret
      exact ⟨ret_int HS.out, hBr⟩
/-- The worst of the first k, as the reference keeps it. -/
def wmR (rows : List (List Int)) (len : Int) (k : Nat) (a m : Int) : Prop := (k = 0 ∧ a = 0 ∧ m = 0) ∨ (0 < k ∧ (a, m) = wmF rows len k)
theorem wmR_up {rows : List (List Int)} {len a m : Int} {k : Nat} (h : wmR rows len k a m) (hk : 1 ≤ wnD rows len k) (hlt : m < wnD rows len k) : wmR rows len (k + 1) (atR rows k) (wnD rows len k) := by
  right
  refine ⟨by omega, ?_⟩
  rcases h with ⟨rfl, rfl, rfl⟩ | ⟨h0, e⟩
  · exact (wmF_up (show (wmF rows len 0).2 < wnD rows len 0 by show (-1 : Int) < _; omega)).symm
  · exact (wmF_up (by rw [← e]; exact hlt)).symm
theorem wmR_keep {rows : List (List Int)} {len a m : Int} {k : Nat} (h : wmR rows len k a m) (hk : 1 ≤ wnD rows len k) (hlt : ¬ m < wnD rows len k) : wmR rows len (k + 1) a m := by
  right
  refine ⟨by omega, ?_⟩
  rcases h with ⟨rfl, rfl, rfl⟩ | ⟨h0, e⟩
  · omega
  · rw [e]
    exact (wmF_keep (by rw [← e]; exact hlt)).symm
def wmE (rows : List (List Int)) (len : Int) (k : Nat) (a m : Int) : Prop := (a, m) = wmF rows len k
theorem wmE_up {rows : List (List Int)} {len a m : Int} {k : Nat} (h : wmE rows len k a m) (hlt : m < wnD rows len k) : wmE rows len (k + 1) (atR rows k) (wnD rows len k) :=
  (wmF_up (by rw [← show (a, m) = wmF rows len k from h]; exact hlt)).symm
theorem wmE_keep {rows : List (List Int)} {len a m : Int} {k : Nat} (h : wmE rows len k a m) (hlt : ¬ m < wnD rows len k) : wmE rows len (k + 1) a m := by
  unfold wmE
  rw [wmF_keep (by rw [← show (a, m) = wmF rows len k from h]; exact hlt)]
  exact h
theorem wmE_end {rows : List (List Int)} {len a m : Int} {k : Nat} (h : wmE rows len k a m) : a = (wmF rows len k).1 ∧ m = (wmF rows len k).2 := by
  rw [← show (a, m) = wmF rows len k from h]; exact ⟨rfl, rfl⟩
theorem wm_pos {rows : List (List Int)} (hw : Wires rows) {len : Int} (hl : 1 ≤ len) (hn : 0 < rows.length) : 1 ≤ (wmF rows len rows.length).2 := by
  have h1 := (wmF_law (rows := rows) (len := len) rows.length).1 0 hn
  have h2 := (wnD_bd hw hl hn).1
  omega
set_option maxRecDepth 100000 in
set_option maxHeartbeats 4000000 in
theorem impl_worstWindow (A : Option Addr) (n c : Nat) (rows : List (List Int)) (len : Int) (w : World) (h : RdR w 3 A n rows) (hm : n ≤ 15) (hn0 : 0 < n) (hw : Wires rows) (hlen : 1 ≤ len ∧ len ≤ 3000) :
    Calls Try.prog 139 #[.slice A n c, .int .i64 len, .int .i64 (-1)] w (Ret w (.tuple #[.int .i64 (wmF rows len rows.length).1, .int .i64 (wmF rows len rows.length).2])) := by
  have hl := h.2.2
  have HC := Lib.hid (fun (k : Nat) (hk : k < n) w' (h' : RdR w' 3 A n rows) => by
    have := impl_brokenWires A n c rows (atR rows k) len w' h' hm hw (hw k (by omega)).1 hlen
    rw [show brW rows (atR rows k) (atR rows k + len - 1) n = wnD rows len k by unfold wnD; rw [hl]] at this
    exact this)
  have HBD := Lib.hid (fun (k : Nat) (hk : k < n) => wnD_bd hw hlen.1 (j := k) (by omega))
  have HPOS := Lib.hid (wm_pos hw hlen.1 (by omega))
  have HU := Lib.hid (fun (k : Nat) (a m : Int) (hh : wmE rows len k a m) => wmE_up hh)
  have HKP := Lib.hid (fun (k : Nat) (a m : Int) (hh : wmE rows len k a m) => wmE_keep hh)
  have HE := Lib.hid (fun (a m : Int) (hh : wmE rows len rows.length a m) => wmE_end hh)
  have HZ : Hid (wmE rows len 0 0 (-1)) := Lib.hid rfl
  rw [hl] at HPOS HE ⊢
  have HHW := Lib.hid (fun (k : Nat) (hk : k < n) => (hw k (by omega)).1)
  clear hw
  generalize wmE rows len = E at *
  generalize wmF rows len n = R at *
  generalize wnD rows len = f at *
  go_enter Try.func139, Try.ntmps139
  go_wp2_with fail
  go_loopg [8, 9, 15] n (fun gg q s i wr => ∃ (k : Nat) (a m : Int), k ≤ n ∧ n ≤ k + gg ∧ i = .int .i64 k ∧ q = .int .i64 a ∧ s = .int .i64 m ∧ Hid (Below w.heap.size w wr) ∧ Hid (E k a m))
  case atStart => exact ⟨0, 0, -1, by omega, by omega, rfl, rfl, rfl, Lib.hid (Below.refl _ _), HZ⟩
  case round =>
    obtain ⟨k, a, m, hk1, hk2, rfl, rfl, rfl, HB, HS⟩ := hrel
    have hBr := HB.out
    have hzr := hBr.size
    by_cases hlt : k < n
    · have HCk := HC.out k hlt
      obtain ⟨b, off, x0, x1, x2, hA, hr, hblt, c0, c1, c2⟩ := h.row3 hlt
      rw [← hBr.cell (p := ⟨b, _, none⟩) hblt] at c0 c1 c2
      have hbr : b < wr.heap.size := by omega
      obtain ⟨e0, e2⟩ := atR_of hr
      have hu := HU.out k a m HS.out
      have hkp := HKP.out k a m HS.out
      rw [e0] at hu HCk
      have hbd := HBD.out k hlt
      have RW := Lib.hid ((h.below hBr).below ((Below.refl wr.heap.size wr).alloc (Nat.le_refl _) (.cells #[.int .i64 x0, .int .i64 x1, .int .i64 x2] 92)))
      have TB2 := Lib.hid (Blk.new wr 92 #[.int .i64 x0, .int .i64 x1, .int .i64 x2])
      have HBA := Lib.hid (hBr.alloc hzr (.cells #[.int .i64 x0, .int .i64 x1, .int .i64 x2] 92))
      have HCC := Lib.hid HCk
      generalize f k = N at *
      subst hA
      clear HCk hr e0 e2
      go_wp2_with fail
      generalize wr.alloc (.cells #[.int .i64 x0, .int .i64 x1, .int .i64 x2] 92) = v at *
      refine (HCC.out v RW.out).mono ?_
      rintro e w5 ⟨rfl, hb⟩
      have H5 := Lib.hid (Below.thenn HBA.out hb HBA.out.size)
      have T5 := TB2.out.below hb TB2.out.lt
      have t0 := T5.cell 0
      simp at t0
      clear hb c0 c1 c2
      by_cases hc : m < N
      · have HN := Lib.hid (hu hc)
        clear hu hkp
        go_wp2_with fail
        go_roundg (n - (k + 1))
        case measure => omega
        case rel => exact ⟨k + 1, x0, N, by omega, by omega, by go_num, rfl, rfl, H5, HN⟩
      · have HN := Lib.hid (hkp (by omega))
        clear hu hkp
        go_wp2_with fail
        go_roundg (n - (k + 1))
        case measure => omega
        case rel => exact ⟨k + 1, a, m, by omega, by omega, by go_num, rfl, rfl, H5, HN⟩
    · obtain rfl : k = n := by omega
      obtain ⟨r1, r2⟩ := HE.out a m HS.out
      have hp := HPOS.out
      rw [← r2] at hp ⊢
      rw [← r1]
      have hm0 : ¬ m < 0 := by omega
      go_wp2_with fail
      all_goals go_ret2
      all_goals exact ⟨by first | rfl | (exfalso; omega), hBr⟩
set_option maxRecDepth 100000 in
set_option maxHeartbeats 4000000 in
theorem spec_l3Most (A : Option Addr) (n c : Nat) (rows : List (List Int)) (len : Int) (w : World) (h : RdR w 3 A n rows) (hm : n ≤ 15) (hn0 : 0 < n) (hw : Wires rows) (hlen : 1 ≤ len ∧ len ≤ 3000) :
    Calls Try.prog 142 #[.slice A n c, .int .i64 len, .int .i64 (-1)] w (Ret w (.tuple #[.int .i64 (wmF rows len rows.length).1, .int .i64 (wmF rows len rows.length).2])) := by
  have hl := h.2.2
  have HC := Lib.hid (fun (k : Nat) (hk : k < n) w' (h' : RdR w' 3 A n rows) => by
    have := spec_l3Broken A n c rows (atR rows k) len w' h' hm hw (hw k (by omega)).1 hlen
    rw [show brW rows (atR rows k) (atR rows k + len - 1) n = wnD rows len k by unfold wnD; rw [hl]] at this
    exact this)
  have HBD := Lib.hid (fun (k : Nat) (hk : k < n) => wnD_bd hw hlen.1 (j := k) (by omega))
  have HU := Lib.hid (fun (k : Nat) (a m : Int) (hh : wmR rows len k a m) => wmR_up hh)
  have HKP := Lib.hid (fun (k : Nat) (a m : Int) (hh : wmR rows len k a m) => wmR_keep hh)
  have HE : Hid (∀ a m, wmR rows len n a m → a = (wmF rows len n).1 ∧ m = (wmF rows len n).2) := Lib.hid (fun a m hh => by
    rcases hh with ⟨h0, _⟩ | ⟨_, e⟩
    · omega
    · rw [← e]; exact ⟨rfl, rfl⟩)
  have HZ : Hid (wmR rows len 0 0 0) := Lib.hid (.inl ⟨rfl, rfl, rfl⟩)
  rw [hl]
  clear hw
  generalize wmR rows len = E at *
  generalize wmF rows len n = R at *
  generalize wnD rows len = f at *
  go_enter Try.func142, Try.ntmps142
  go_wp2_with fail
  go_loopg [8, 9, 10] n (fun gg q s i wr => ∃ (k : Nat) (a m : Int), k ≤ n ∧ n ≤ k + gg ∧ i = .int .i64 k ∧ q = .int .i64 a ∧ s = .int .i64 m ∧ Hid (Below w.heap.size w wr) ∧ Hid (E k a m))
  case atStart => exact ⟨0, 0, 0, by omega, by omega, rfl, rfl, rfl, Lib.hid (Below.refl _ _), HZ⟩
  case round =>
    obtain ⟨k, a, m, hk1, hk2, rfl, rfl, rfl, HB, HS⟩ := hrel
    have hBr := HB.out
    have hzr := hBr.size
    by_cases hlt : k < n
    · have HCk := HC.out k hlt
      obtain ⟨b, off, x0, x1, x2, hA, hr, hblt, c0, c1, c2⟩ := h.row3 hlt
      rw [← hBr.cell (p := ⟨b, _, none⟩) hblt] at c0 c1 c2
      have hbr : b < wr.heap.size := by omega
      obtain ⟨e0, e2⟩ := atR_of hr
      have hbd := HBD.out k hlt
      have hu := HU.out k a m HS.out hbd.1
      have hkp := HKP.out k a m HS.out hbd.1
      rw [e0] at hu HCk
      have RW := Lib.hid (h.below hBr)
      have HCC := Lib.hid HCk
      generalize f k = N at *
      subst hA
      clear HCk hr e0 e2 c1 c2
      go_wp2_with fail
      refine (HCC.out wr RW.out).mono ?_
      rintro e w5 ⟨rfl, hb⟩
      have H5 := Lib.hid (Below.thenn HB.out hb HB.out.size)
      have c5 := (hb.cell (p := ⟨b, off + k * 3, none⟩) hbr).trans c0
      clear hb c0
      by_cases hc : m < N
      · have HN := Lib.hid (hu hc)
        clear hu hkp
        go_wp2_with fail
        go_roundg (n - (k + 1))
        case measure => omega
        case rel => exact ⟨k + 1, x0, N, by omega, by omega, by go_num, rfl, rfl, H5, HN⟩
      · have HN := Lib.hid (hkp (by omega))
        clear hu hkp
        go_wp2_with fail
        go_roundg (n - (k + 1))
        case measure => omega
        case rel => exact ⟨k + 1, a, m, by omega, by omega, by go_num, rfl, rfl, H5, HN⟩
    · obtain rfl : k = n := by omega
      obtain ⟨r1, r2⟩ := HE.out a m HS.out
      have Q1 := Lib.hid r1
      have Q2 := Lib.hid r2
      clear r1 r2
      go_wp2_with fail
      go_ret2
      exact ⟨ret_two Q1.out Q2.out, hBr⟩
end Go.Proofs.Ytjfmicemnoglkaa
