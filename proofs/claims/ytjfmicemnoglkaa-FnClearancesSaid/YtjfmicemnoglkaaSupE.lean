/- Ropes, places, and what the law on sags draws. -/
import Derived.Test.YtjfmicemnoglkaaSupD
namespace Go.Proofs.Ytjfmicemnoglkaa
open Go.RowKit
set_option linter.unusedVariables false
set_option linter.unusedSimpArgs false

def DrewT2 (w : World) (g : Nat) (S : Src) (K : Nat) (e : Ending) (w' : World) : Prop :=
  ∃ x p : Int, e = .returned (.agg #[.int .i64 x, .int .i64 p]) ∧ Cur w' g S K ∧ w.grownBy w' (some g)
theorem Blk.cells2 {w : World} {g : Nat} {t : TypeId} {a b : Value} (h : Blk w g t #[a, b]) : w.cell? ⟨g, 0, none⟩ = some a ∧ w.cell? ⟨g, 1, none⟩ = some b := ⟨by simpa using h.cell 0, by simpa using h.cell 1⟩
theorem Blk.put2 {w : World} {g : Nat} {t : TypeId} {a b x y : Value} (h : Blk w g t #[a, b]) : Blk ((w.setCell ⟨g, 0, none⟩ x).setCell ⟨g, 1, none⟩ y) g t #[x, y] := by simpa using (h.set_ 0 x).set_ 1 y
set_option maxHeartbeats 1000000 in
theorem cur_rope (w : World) (g : Nat) (S : Src) (K : Nat) (h : Cur w g S K) (hK : K ≤ 700000) : Calls Try.prog 94 #[.pointer (some ⟨g, 0, none⟩)] w (DrewT2 w g S (K + 10)) := by
  have H := Lib.hid h
  have hg := h.lt
  clear h
  go_enter Try.func94, Try.ntmps94
  go_wp2_with fail
  (go_at_call 96; refine (cur_amongA _ _ (by simp) _ S (K) [1, 20, 50, 100, 200, 0, 201, 30, 60] (fun r => True) _ _ (H.out.alloc _) (by omega) rfl rfl (by decide) (by decide) (by decide)).mono ?_; rintro e w1 ⟨x, xp, rfl, hC, hG⟩; have Cw1 := Lib.hid hC; have Gw1 := Lib.hid hG; have Zw1 := hG.size; clear hC hG)
  go_wp2_with fail
  (go_at_call 96; refine (cur_among w1 _ S (K + 2) [1, 1000, 5000, 20000, 50000, 100000, 0, 100001, 3000, 7000] (fun r => True) _ _ (Cw1.out) (by omega) rfl rfl (by decide) (by decide) (by decide)).mono ?_; rintro e w2 ⟨p, pp, rfl, hC, hG⟩; have Cw2 := Lib.hid hC; have Gw2 := Lib.hid hG; have Zw2 := hG.size; clear hC hG)
  have hne : ∀ {g : Nat}, g < w.heap.size → some w.heap.size ≠ some g := fun h e => by injection e with e; omega
  have T := Lib.hid (((Blk.new w 26 #[.int .i64 0, .int .i64 0]).grown Gw1.out (hne hg)).grown Gw2.out (hne hg))
  have z1 := Gw1.out.size
  have z2 := Gw2.out.size
  simp at z1
  obtain ⟨c0, c1⟩ := T.out.cells2
  have f0 := T.out.frozen 0
  have f1 := T.out.frozen 1
  have P := Lib.hid (T.out.put2 (x := .int .i64 x) (y := .int .i64 p))
  have CC := Lib.hid ((Cw2.out.far (p := ⟨w.heap.size, 0, none⟩) hg (.int .i64 x)).far (p := ⟨w.heap.size, 1, none⟩) hg (.int .i64 p))
  have GG := Lib.hid (only_setCell (only_setCell (only_trans (only_trans (only_alloc (World.grownBy.refl w _) _) Gw1.out) Gw2.out) (p := ⟨w.heap.size, 0, none⟩) (.inr (Nat.le_refl _)) (.int .i64 x)) (p := ⟨w.heap.size, 1, none⟩) (.inr (Nat.le_refl _)) (.int .i64 p))
  clear hne
  go_wp2_with fail
  go_light
  obtain ⟨e0, e1⟩ := P.out.cells2
  refine bodyPost_ret (v := .agg #[.int .i64 x, .int .i64 p]) ?_ rfl ⟨x, p, rfl, CC.out.more (by omega), GG.out⟩
  simp [results, Try.results94, go_sem, e0, e1]
set_option maxHeartbeats 1000000 in
theorem cur_placeOf (w : World) (g : Nat) (S : Src) (K B : Nat) (A : Option Addr) (n c : Nat) (rows : List (List Int)) (h : Cur w g S K) (hK : K ≤ 700000) (ho : OwL w B (.slice A n c) rows) (hg : g < B) (hn : n ≤ 1000) :
    Calls Try.prog 95 #[.pointer (some ⟨g, 0, none⟩), .slice A n c] w (Drew w g S (K + 10) fun r => True) := by
  have H := Lib.hid h
  have HO := Lib.hid ho
  clear h ho
  go_enter Try.func95, Try.ntmps95
  rcases Nat.eq_zero_or_pos n with h0 | h0
  · subst h0
    go_wp2_with fail
    (go_at_call 96; refine (cur_among w _ S (K) [-1, 0, 1, 3000, 3001] (fun r => True) _ _ (H.out) (by omega) rfl rfl (by decide) (by decide) (by decide)).mono ?_; rintro e w2 ⟨r, rp, rfl, hC, hG⟩; have Cw2 := Lib.hid hC; have Gw2 := Lib.hid hG; have Zw2 := hG.size; clear hC hG)
    go_wp2_with fail
    go_ret
    exact Drew.mk trivial rfl (Cw2.out.more (by omega)) Gw2.out
  · go_wp2_with ((go_at_call 150; (with_reducible refine (cur_one w _ S (K) (12) (H.out) (by omega) (by omega) (by omega)).mono ?_); rintro e w5 ⟨t0, rfl, hC, hG⟩; have Cw5 := Lib.hid hC; have Gw5 := Lib.hid hG; have Zw5 := hG.size; clear hC hG); have O5 := Lib.hid (HO.out.gen Gw5.out hg))
    · (go_at_call 96; refine (cur_among w5 _ S (K + 2) [-1, 0, 1, 3000, 3001] (fun r => True) _ _ (Cw5.out) (by omega) rfl rfl (by decide) (by decide) (by decide)).mono ?_; rintro e w2 ⟨r, rp, rfl, hC, hG⟩; have Cw2 := Lib.hid hC; have Gw2 := Lib.hid hG; have Zw2 := hG.size; clear hC hG)
      go_wp2_with fail
      go_ret
      exact Drew.mk trivial rfl (Cw2.out.more (by omega)) (only_trans Gw5.out Gw2.out)
    · (go_at_call 125; (with_reducible refine (cur_pick w5 _ S (K + 2) ((n : Int)) (Cw5.out) (by omega) (by omega) (by omega)).mono ?_); rintro e w6 ⟨k0, ⟨k00, k01⟩, rfl, hC, hG⟩; have Cw6 := Lib.hid hC; have Gw6 := Lib.hid hG; have Zw6 := hG.size; clear hC hG)
      obtain ⟨k, rfl⟩ := Int.eq_ofNat_of_zero_le k00
      have hk : k < n := by omega
      have O6 := Lib.hid (O5.out.gen Gw6.out hg)
      obtain ⟨b, x0, x1, x2, rfl, hB, hbl, hr, c0, c1, c2, _⟩ := O6.out.cells hk
      clear hr
      go_wp2_with fail
      (go_at_call 96; refine (cur_among w6 _ S (K + 2 + 2) [0, 0, 1, -1, 5, 17, -30] (fun r => True) _ _ (Cw6.out) (by omega) rfl rfl (by decide) (by decide) (by decide)).mono ?_; rintro e w7 ⟨d, dp, rfl, hC, hG⟩; have Cw7 := Lib.hid hC; have Gw7 := Lib.hid hG; have Zw7 := hG.size; clear hC hG)
      go_wp2_with fail
      go_ret
      exact Drew.mk trivial rfl (Cw7.out.more (by omega)) (only_trans Gw5.out (only_trans Gw6.out Gw7.out))
end Go.Proofs.Ytjfmicemnoglkaa
