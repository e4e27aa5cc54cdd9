/- slices.IndexFunc at Brake, whatever closure. -/
import Derived.Test.YthijklidjdhkdaaFlBrake
import Derived.Test.YthijklidjdhkdaaIdx
namespace Go.Proofs.Ythijklidjdhkdaa
open Go.RowKit
set_option linter.unusedVariables false
set_option linter.unusedSimpArgs false

set_option maxHeartbeats 1000000 in
theorem slices_IndexFunc_Brake (g : Nat) (lb : Array Value) (eg : ∀ args w, (callFunc g args).run Try.prog w = .ok (.enter g args) w) (p : List Int → Bool) (A : Option Addr) (n c : Nat) (rows : List (List Int)) (w : World) (h : RdR w 2 A n rows) (hm : n ≤ 1048577)
    (hp : ∀ (W : World) (x0 x1 : Int), [x0, x1] ∈ rows → Below w.heap.size w W → Calls Try.prog g (#[.agg #[.int .i64 x0, .int .i64 x1]] ++ lb) W (Ret W (.bool (p [x0, x1])))) :
    Calls Try.prog 74 #[.slice A n c, .func (.func g) #[] lb] w (Ret w (.int .i64 (idxR p rows))) := by
  have hl := Lib.hid h.2.2
  have HP := Lib.hid hp
  clear hp
  go_enter Try.func74, Try.ntmps74
  go_wp2
  go_loopg [8] n (fun gg i wr => ∃ k : Nat, k ≤ n ∧ n ≤ k + gg ∧ i = .int .i64 k ∧ Below w.heap.size w wr ∧ w.heap.size ≤ wr.heap.size ∧ Hid (idxF p k (rows.drop k) = idxR p rows))
  case atStart => exact ⟨0, by omega, by omega, rfl, Below.refl _ _, Nat.le_refl _, rfl⟩
  case round =>
    obtain ⟨k, hk1, hk2, rfl, hBr, hzr, ha⟩ := hrel
    by_cases hlt : k < n
    · obtain ⟨b, off, x0, x1, rfl, hr, hblt, c0, c1⟩ := h.row2 hlt
      rw [← hBr.cell (p := ⟨b, _, none⟩) hblt] at c0 c1
      have hbr : b < wr.heap.size := by omega
      have hcall := HP.out wr x0 x1 (List.mem_of_getElem? hr) hBr
      have HR := Lib.hid hr
      clear hr
      rcases hq : p [x0, x1] with _ | _
      · rw [hq] at hcall
        have HQ := Lib.hid hq
        have HC := Lib.hid hcall
        clear hq hcall
        go_wp2_with (refine (HC.out).mono ?_; rintro e w' ⟨rfl, hb⟩; have hB : Below w.heap.size w w' := Below.thenn hBr hb hzr; have hz : w.heap.size ≤ w'.heap.size := hB.size; clear hb)
        go_roundg (n - (k + 1))
        case measure => omega
        case rel => exact ⟨k + 1, by omega, by omega, by go_num, hB, hz, (idxF_no HR.out HQ.out).symm.trans ha.out⟩
      · rw [hq] at hcall
        have HQ := Lib.hid hq
        have HC := Lib.hid hcall
        clear hq hcall
        go_wp2_with (refine (HC.out).mono ?_; rintro e w' ⟨rfl, hb⟩; have hB : Below w.heap.size w w' := Below.thenn hBr hb hzr; clear hb)
        go_ret
        exact ⟨ret_int (by rw [← ha.out, idxF_yes HR.out HQ.out]), hB⟩
    · go_wp2_with fail
      go_ret
      exact ⟨ret_int (by rw [← ha.out, idxF_end hl.out (by omega)]), hBr⟩
theorem slices_ContainsFunc_Brake (g : Nat) (lb : Array Value) (eg : ∀ args w, (callFunc g args).run Try.prog w = .ok (.enter g args) w) (p : List Int → Bool) (A : Option Addr) (n c : Nat) (rows : List (List Int)) (w : World) (h : RdR w 2 A n rows) (hm : n ≤ 1048577)
    (hp : ∀ (W : World) (x0 x1 : Int), [x0, x1] ∈ rows → Below w.heap.size w W → Calls Try.prog g (#[.agg #[.int .i64 x0, .int .i64 x1]] ++ lb) W (Ret W (.bool (p [x0, x1])))) :
    Calls Try.prog 52 #[.slice A n c, .func (.func g) #[] lb] w (Ret w (.bool (rows.any p))) := by
  have CI := Lib.hid (slices_IndexFunc_Brake g lb eg p A n c rows w h hm hp)
  rw [idx_any]
  clear hp h
  generalize idxR p rows = z at CI ⊢
  go_enter Try.func52, Try.ntmps52
  go_wp2_with (go_at_call 74; refine (CI.out).mono ?_; rintro e w' ⟨rfl, hb⟩; have hB : Below w.heap.size w w' := Below.thenn (by repeat (first | exact Below.refl _ _ | assumption | apply Below.drew | apply below_drewN | (refine Below.alloc ?_ (by first | omega | (simp; done) | (simp; omega)) _) | (refine Below.setCell ?_ (by first | omega | (simp; done) | (simp; omega)) _))) hb (by first | omega | (simp; done) | (simp; omega)); have hz : w.heap.size ≤ w'.heap.size := hB.size; (try (have hz1 : w.heap.size + 1 ≤ w'.heap.size := (by have h := hb.size; (try simp at h); omega))); obtain ⟨hc, hf⟩ := bcell hb; clear hb)
  go_ret
  exact ⟨rfl, (by repeat (first | exact Below.refl _ _ | assumption | apply Below.drew | apply below_drewN | (refine Below.alloc ?_ (by first | omega | (simp; done) | (simp; omega)) _) | (refine Below.setCell ?_ (by first | omega | (simp; done) | (simp; omega)) _)))⟩
end Go.Proofs.Ythijklidjdhkdaa
