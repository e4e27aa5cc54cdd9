/- slices.Grow onto nil and slices.Concat of two lists of brakes. -/
import Derived.Test.YthijklidjdhkdaaFlBrakeC
import Derived.Test.YthijklidjdhkdaaPut
import Derived.Lib.AppendZeros
namespace Go.Proofs.Ythijklidjdhkdaa
open Go.RowKit
set_option linter.unusedVariables false
set_option linter.unusedSimpArgs false

theorem slices_Grow_Brake (m : Nat) (w : World) (hm : m ≤ 4194304) : Calls Try.prog 84 #[.slice none 0 0, .int .i64 m] w
    fun e w' => ∃ A c, e = .returned (.slice A 0 c) ∧ OwR w' w.heap.size 56 2 (.slice A 0 c) [] ∧ Below w.heap.size w w' := by
  obtain ⟨i0, hi0, hz0, hz1, hz2⟩ := info_parts info_Brake
  rcases Nat.eq_zero_or_pos m with h0 | h0
  · subst h0
    go_enter Try.func84, Try.ntmps84
    go_wp2_with fail
    go_ret
    exact ⟨none, 0, rfl, OwR.nil _ _ _ _, Below.refl _ _⟩
  · have hrun := Lib.run_append_nil_zeros (P := Try.prog) w 27 3 27 56 i0 _ .i64 .i64 Try.underlying27 Try.underlying3 hi0 hz0 m h0 (by rw [hz1]; omega) (by omega) (by rw [hz2]; omega)
    have hge := grownCap_ge w m 0 56
    have hcm : grownCap w m 0 56 ≤ maxLen := grownCap_le_maxLen w m 0 56 (by simp only [maxLen]; omega)
    obtain ⟨cap, hcap⟩ : ∃ cap, cap = grownCap w m 0 56 := ⟨_, rfl⟩
    rw [← hcap] at hrun hge hcm
    have HR := Lib.hid hrun
    clear hrun hcap
    go_enter Try.func84, Try.ntmps84
    go_wp2_with (at_builtin; refine Lib.wpList_append_run _ rfl (.tmp 20) (.tmp 21) _ _ rfl _ _ rfl rfl _ _ HR.out ?_)
    go_ret
    refine ⟨_, cap, rfl, ?_, ?_⟩
    · have := World.ownsRow_made (w := w.drew) (base := w.heap.size) (e := 56) (size := 2) (Builtin.zeroCells (Value.agg #[.int .i64 0, .int .i64 0]).cells m ++ Builtin.zeroCells (Value.agg #[.int .i64 0, .int .i64 0]).cells (cap - m)) cap (Nat.le_refl _) hcm (by simp [size_zeroCells, Value.cells]; omega)
      exact ⟨this, by simp [Even]⟩
    · exact ((Below.refl _ _).drew).alloc (Nat.le_refl _) _

set_option maxHeartbeats 2000000 in
theorem slices_Concat_Brake (g : Nat) (A A' : Option Addr) (n c n' c' : Nat) (xs ys : List (List Int)) (w : World) (hc0 : w.cell? ⟨g, 0, none⟩ = some (.slice A n c)) (hc1 : w.cell? ⟨g, 1, none⟩ = some (.slice A' n' c'))
    (h : RdR w 2 A n xs) (h' : RdR w 2 A' n' ys) (hn : n ≤ 1048577) (hn' : n' ≤ 1048577) :
    Calls Try.prog 81 #[.slice (some ⟨g, 0, none⟩) 2 2] w (RetR w 56 2 (xs ++ ys)) := by
  have hl := Lib.hid h.2.2
  have hl' := Lib.hid h'.2.2
  have hg : g < w.heap.size := World.block_lt_of_cell? w _ hc0
  go_enter Try.func81, Try.ntmps81
  go_wp2_with fail
  go_loopg [3, 11] 2 (fun gg s i wr => w = wr ∧ ((gg = 2 ∧ i = .int .i64 0 ∧ s = .int .i64 0) ∨ (gg = 1 ∧ i = .int .i64 1 ∧ s = .int .i64 n) ∨ (gg = 0 ∧ i = .int .i64 2 ∧ s = .int .i64 ((n : Int) + n'))))
  case atStart => exact ⟨rfl, .inl ⟨rfl, rfl, rfl⟩⟩
  case round =>
    rcases hrel with ⟨rfl, ⟨rfl, rfl, rfl⟩ | ⟨rfl, rfl, rfl⟩ | ⟨rfl, rfl, rfl⟩⟩
    · go_wp2_with fail
      go_roundg 1
      case measure => omega
      case rel => exact ⟨rfl, .inr (.inl ⟨rfl, rfl, by go_num⟩)⟩
    · go_wp2_with fail
      go_roundg 0
      case measure => omega
      case rel => exact ⟨rfl, .inr (.inr ⟨rfl, rfl, by go_num⟩)⟩
    · go_wp2_with fail
      rw [show (n : Int) + n' = ((n + n' : Nat) : Int) by omega]
      refine (slices_Grow_Brake (n + n') _ (by omega)).mono ?_
      rintro e w1 ⟨A1, c1, rfl, ho1, hb1⟩
      have HB := Lib.hid hb1
      have HO := Lib.hid ho1
      have hc0' : w1.cell? ⟨g, 0, none⟩ = some (.slice A n c) := (hb1.cell hg).trans hc0
      have hc1' : w1.cell? ⟨g, 1, none⟩ = some (.slice A' n' c') := (hb1.cell hg).trans hc1
      clear hb1 ho1
      go_wp2_with fail
      go_loopg [27, 6] 2 (fun gg i o wr => ∃ (zs : List (List Int)) (Ao : Option Addr) (co : Nat), o = .slice Ao zs.length co ∧ Hid (OwR wr w.heap.size 56 2 (.slice Ao zs.length co) zs ∧ Below w.heap.size w wr) ∧ ((gg = 2 ∧ i = .int .i64 0 ∧ zs = []) ∨ (gg = 1 ∧ i = .int .i64 1 ∧ zs = xs) ∨ (gg = 0 ∧ i = .int .i64 2 ∧ zs = xs ++ ys)))
      case atStart => exact ⟨[], A1, c1, rfl, ⟨HO.out, HB.out⟩, .inl ⟨rfl, rfl, rfl⟩⟩
      case round =>
        obtain ⟨zs, Ao, co, rfl, hh, hi⟩ := hrel
        have hB := hh.out.2
        have hsz := hB.size
        have k0 : wr.cell? ⟨g, 0, none⟩ = some (.slice A n c) := (hB.cell hg).trans hc0
        have k1 : wr.cell? ⟨g, 1, none⟩ = some (.slice A' n' c') := (hB.cell hg).trans hc1
        rcases hi with ⟨rfl, rfl, rfl⟩ | ⟨rfl, rfl, rfl⟩ | ⟨rfl, rfl, rfl⟩
        · have hr := h.below hB
          go_wp2_with (at_builtin; refine wp_app_BrakeS rfl (.tmp 31) (.tmp 32) rfl wr w.heap.size (.slice Ao ([] : List (List Int)).length co) [] rfl hh.out.1 A n c xs rfl hr (by simp; omega) hsz ?_; intro A2 c2 w2 ho2 hb2)
          go_roundg 1
          case measure => omega
          case rel => exact ⟨[] ++ xs, A2, c2, by simp, ⟨ho2, hB.trans hb2⟩, .inr (.inl ⟨rfl, rfl, by simp⟩)⟩
        · have hr := h'.below hB
          go_wp2_with (at_builtin; refine wp_app_BrakeS rfl (.tmp 31) (.tmp 32) rfl wr w.heap.size (.slice Ao zs.length co) zs rfl hh.out.1 A' n' c' ys rfl hr (by have := hl.out; omega) hsz ?_; intro A2 c2 w2 ho2 hb2)
          go_roundg 0
          case measure => omega
          case rel => exact ⟨zs ++ ys, A2, c2, by simp, ⟨ho2, hB.trans hb2⟩, .inr (.inr ⟨rfl, rfl, rfl⟩)⟩
        · go_wp2_with fail
          go_ret
          exact ⟨Ao, co, ret_s (by simp), hh.out.1, hB⟩
end Go.Proofs.Ythijklidjdhkdaa
