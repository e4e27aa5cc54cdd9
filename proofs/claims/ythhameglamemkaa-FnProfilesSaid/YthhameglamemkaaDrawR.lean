/- What the generator draws for the laws on profiles. -/
import Derived.Test.YthhameglamemkaaDrawQ
namespace Go.Proofs.Ythhameglamemkaa
open Go.RowKit
set_option linter.unusedVariables false
set_option linter.unusedSimpArgs false

def GenI2 (w : World) (e : Ending) (w' : World) : Prop := ∃ a b : Int, e = .returned (.tuple #[.int .i64 a, .int .i64 b]) ∧ Below w.heap.size w w'
def GenI3 (w : World) (e : Ending) (w' : World) : Prop := ∃ a b c : Int, e = .returned (.tuple #[.int .i64 a, .int .i64 b, .int .i64 c]) ∧ Below w.heap.size w w'
def GenS (w : World) (m : Nat) (e : Ending) (w' : World) : Prop := ∃ A c zs, e = .returned (.slice A zs.length c) ∧ zs.length ≤ m ∧ Ow w' w.heap.size (.slice A zs.length c) zs ∧ Below w.heap.size w w'
def GenSI (w : World) (m : Nat) (e : Ending) (w' : World) : Prop := ∃ A c zs, ∃ a : Int, e = .returned (.tuple #[.slice A zs.length c, .int .i64 a]) ∧ zs.length ≤ m ∧ Ow w' w.heap.size (.slice A zs.length c) zs ∧ Below w.heap.size w w'
def GenSII (w : World) (m : Nat) (e : Ending) (w' : World) : Prop := ∃ A c zs, ∃ a b : Int, e = .returned (.tuple #[.slice A zs.length c, .int .i64 a, .int .i64 b]) ∧ zs.length ≤ m ∧ Ow w' w.heap.size (.slice A zs.length c) zs ∧ Below w.heap.size w w'
def GenSS (w : World) (m : Nat) (e : Ending) (w' : World) : Prop := ∃ A c zs, ∃ A' c' ys, e = .returned (.tuple #[.slice A zs.length c, .slice A' ys.length c']) ∧ zs.length ≤ m ∧ ys.length ≤ m ∧ Ow w' w.heap.size (.slice A zs.length c) zs ∧ Ow w' w.heap.size (.slice A' ys.length c') ys ∧ Below w.heap.size w w'

theorem draw_StopWay (w : World) (S : Src) (h : S.ok w) : Calls Try.prog 43 #[.slice S.A S.n S.c] w (GenI2 w) := by
  have H := Lib.hid (Cur.new h)
  go_enter Try.func43, Try.ntmps43
  go_wp2_with (first | (go_at_call 64; refine (cur_speed _ _ S 0 H.out (by omega)).mono ?_; rintro e w1 ⟨r, rp, rfl, hC, hG⟩; have Cw1 := Lib.hid hC; have Gw1 := Lib.hid hG; have Zw1 := hG.size; clear hC hG) | (go_at_call 66; refine (cur_rate _ _ S 2 Cw1.out (by omega)).mono ?_; rintro e w2 ⟨q, qp, rfl, hC, hG⟩; have Cw2 := Lib.hid hC; have Gw2 := Lib.hid hG; have Zw2 := hG.size; clear hC hG))
  go_ret2
  exact ⟨_, _, rfl, below_gen (only_trans Gw1.out Gw2.out)⟩
theorem draw_SpeedFor (w : World) (S : Src) (h : S.ok w) : Calls Try.prog 42 #[.slice S.A S.n S.c] w (GenI2 w) := by
  have H := Lib.hid (Cur.new h)
  go_enter Try.func42, Try.ntmps42
  go_wp2_with (first | (go_at_call 68; refine (cur_amongA _ _ (by simp) _ S (0) [0, 1, 10, 100, 500, 2000, 100000, 100001, -1] (fun r => -1 ≤ r ∧ r ≤ 100001) _ _ (H.out) (by omega) rfl rfl (by decide) (by decide) (by decide)).mono ?_; rintro e w1 ⟨r, rp, rfl, hC, hG⟩; have Cw1 := Lib.hid hC; have Gw1 := Lib.hid hG; have Zw1 := hG.size; clear hC hG) | (go_at_call 66; refine (cur_rate _ _ S 2 Cw1.out (by omega)).mono ?_; rintro e w2 ⟨q, qp, rfl, hC, hG⟩; have Cw2 := Lib.hid hC; have Gw2 := Lib.hid hG; have Zw2 := hG.size; clear hC hG))
  go_ret2
  exact ⟨_, _, rfl, below_gen (only_trans Gw1.out Gw2.out)⟩
theorem draw_ShortestTo (w : World) (S : Src) (h : S.ok w) : Calls Try.prog 44 #[.slice S.A S.n S.c] w (GenI3 w) := by
  have H := Lib.hid (Cur.new h)
  go_enter Try.func44, Try.ntmps44
  go_wp2_with (go_at_call 64; refine (cur_speed _ _ S 0 H.out (by omega)).mono ?_; rintro e w1 ⟨r, rp, rfl, hC, hG⟩; have Cw1 := Lib.hid hC; have Gw1 := Lib.hid hG; have Zw1 := hG.size; clear hC hG)
  (go_at_call 64; refine (cur_speed _ _ S 2 Cw1.out (by omega)).mono ?_; rintro e w2 ⟨q, qp, rfl, hC, hG⟩; have Cw2 := Lib.hid hC; have Gw2 := Lib.hid hG; have Zw2 := hG.size; clear hC hG)
  go_wp2_with (go_at_call 66; refine (cur_rate _ _ S 4 Cw2.out (by omega)).mono ?_; rintro e w3 ⟨p, pp, rfl, hC, hG⟩; have Cw3 := Lib.hid hC; have Gw3 := Lib.hid hG; have Zw3 := hG.size; clear hC hG)
  go_ret3
  exact ⟨_, _, _, rfl, below_gen (only_trans Gw1.out (only_trans Gw2.out Gw3.out))⟩
theorem draw_IsProfile (w : World) (S : Src) (h : S.ok w) : Calls Try.prog 67 #[.slice S.A S.n S.c] w (GenS w 40) := by
  have H := Lib.hid (Cur.new h)
  go_enter Try.func67, Try.ntmps67
  go_wp2_with (go_at_call 63; refine (cur_profile _ _ S 0 H.out (by omega)).mono ?_; rintro e w1 ⟨A, c, zs, rfl, hl, ho, hC, hG⟩; have HO := Lib.hid ho; have HC := Lib.hid hC; have HG := Lib.hid hG; clear ho hC hG)
  go_ret
  exact ⟨A, c, zs, rfl, hl, HO.out.base (by simp), below_gen HG.out⟩
theorem draw_DoubleWay (w : World) (S : Src) (h : S.ok w) : Calls Try.prog 45 #[.slice S.A S.n S.c] w (GenS w 40) := by
  have H := Lib.hid h
  clear h
  go_enter Try.func45, Try.ntmps45
  go_wp2_with (go_at_call 67; refine (draw_IsProfile _ S H.out).mono ?_; rintro e w1 ⟨A, c, zs, rfl, hl, ho, hB⟩; have HO := Lib.hid ho; have HB := Lib.hid hB; clear ho hB)
  go_ret
  exact ⟨A, c, zs, rfl, hl, HO.out, HB.out⟩
theorem draw_SmoothProfile (w : World) (S : Src) (h : S.ok w) : Calls Try.prog 41 #[.slice S.A S.n S.c] w (GenS w 40) := by
  have H := Lib.hid h
  clear h
  go_enter Try.func41, Try.ntmps41
  go_wp2_with (go_at_call 67; refine (draw_IsProfile _ S H.out).mono ?_; rintro e w1 ⟨A, c, zs, rfl, hl, ho, hB⟩; have HO := Lib.hid ho; have HB := Lib.hid hB; clear ho hB)
  go_ret
  exact ⟨A, c, zs, rfl, hl, HO.out, HB.out⟩
theorem draw_DoesKeep (w : World) (S : Src) (h : S.ok w) : Calls Try.prog 40 #[.slice S.A S.n S.c] w (GenSI w 40) := by
  have H := Lib.hid (Cur.new h)
  go_enter Try.func40, Try.ntmps40
  go_wp2_with (first | (go_at_call 63; refine (cur_profile _ _ S 0 H.out (by omega)).mono ?_; rintro e w1 ⟨A, c, zs, rfl, hl, ho, hC, hG⟩; have HO := Lib.hid ho; have HC := Lib.hid hC; have HG := Lib.hid hG; have hz := hG.size; clear ho hC hG) | (go_at_call 66; refine (cur_rate _ _ S 300 HC.out (by omega)).mono ?_; rintro e w2 ⟨q, qp, rfl, hC, hG⟩; have Cw2 := Lib.hid hC; have Gw2 := Lib.hid hG; have Zw2 := hG.size; clear hC hG))
  go_ret2
  exact ⟨A, c, zs, _, rfl, hl, (HO.out.gen Gw2.out (by simp)).base (by simp), below_gen (only_trans HG.out Gw2.out)⟩
end Go.Proofs.Ythhameglamemkaa
