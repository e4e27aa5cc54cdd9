/- What the law on spans draws. -/
import Derived.Test.YtjfmicemnoglkaaSupF
namespace Go.Proofs.Ytjfmicemnoglkaa
open Go.RowKit
set_option linter.unusedVariables false
set_option linter.unusedSimpArgs false

def GenL (w : World) (e : Ending) (w' : World) : Prop := ∃ A c rows, e = .returned (.slice A rows.length c) ∧ rows.length ≤ 10 ∧ OwL w' w.heap.size (.slice A rows.length c) rows ∧ Below w.heap.size w w'
def GenLI (w : World) (e : Ending) (w' : World) : Prop := ∃ A c rows, ∃ a : Int, e = .returned (.tuple #[.slice A rows.length c, .int .i64 a]) ∧ rows.length ≤ 10 ∧ OwL w' w.heap.size (.slice A rows.length c) rows ∧ Below w.heap.size w w'
set_option maxHeartbeats 1000000 in
theorem draw_IsLine (w : World) (S : Src) (h : S.ok w) : Calls Try.prog 109 #[.slice S.A S.n S.c] w (GenL w) := by
  have H := Lib.hid (Cur.new h)
  clear h
  go_enter Try.func109, Try.ntmps109
  (go_wp2_with fail; refine (cur_line _ _ S 0 H.out (by omega)).mono ?_; rintro e w1 ⟨A, c, rows, rfl, hl, ho, hC, hG⟩; have HO := Lib.hid ho; have HC := Lib.hid hC; have HG := Lib.hid hG; clear ho hC hG)
  go_wp2_with fail
  go_ret
  exact ⟨A, c, rows, rfl, hl, HO.out.base (by simp), below_gen HG.out⟩
theorem draw_SpanLengths (w : World) (S : Src) (h : S.ok w) : Calls Try.prog 24 #[.slice S.A S.n S.c] w (GenL w) := by
  have H := Lib.hid (draw_IsLine w S h)
  clear h
  go_enter Try.func24, Try.ntmps24
  go_wp2_with fail
  refine H.out.mono ?_
  rintro e w1 ⟨A, c, rows, rfl, hl, ho, hb⟩
  go_wp2_with fail
  go_ret
  exact ⟨A, c, rows, rfl, hl, ho, hb⟩
set_option maxHeartbeats 1000000 in
theorem draw_SpanAt (w : World) (S : Src) (h : S.ok w) : Calls Try.prog 37 #[.slice S.A S.n S.c] w (GenLI w) := by
  have H := Lib.hid (Cur.new h)
  clear h
  go_enter Try.func37, Try.ntmps37
  (go_wp2_with fail; refine (cur_line _ _ S 0 H.out (by omega)).mono ?_; rintro e w1 ⟨A, c, rows, rfl, hl, ho, hC, hG⟩; have HO := Lib.hid ho; have HC := Lib.hid hC; have HG := Lib.hid hG; clear ho hC hG)
  go_wp2_with fail
  (go_at_call 95; refine (cur_placeOf w1 _ S (300) _ _ _ _ _ HC.out (by omega) HO.out (by first | omega | (simp; omega) | simp) (by omega)).mono ?_; rintro e w3 ⟨a, _, rfl, hC, hG⟩; have Cw3 := Lib.hid hC; have Gw3 := Lib.hid hG; have Zw3 := hG.size; clear hC hG)
  have HO3 := Lib.hid (HO.out.gen Gw3.out (by simp))
  have G3 := Lib.hid (only_trans HG.out Gw3.out)
  go_wp2_with fail
  go_ret2
  exact ⟨A, c, rows, a, rfl, hl, HO3.out.base (by simp), below_gen G3.out⟩
theorem draw_ChordAt (w : World) (S : Src) (h : S.ok w) : Calls Try.prog 35 #[.slice S.A S.n S.c] w (GenLI w) := by
  have H := Lib.hid (draw_SpanAt w S h)
  clear h
  go_enter Try.func35, Try.ntmps35
  go_wp2_with fail
  refine H.out.mono ?_
  rintro e w1 ⟨A, c, rows, a, rfl, hl, ho, hb⟩
  go_wp2_with fail
  go_ret2
  exact ⟨A, c, rows, a, rfl, hl, ho, hb⟩
end Go.Proofs.Ytjfmicemnoglkaa
