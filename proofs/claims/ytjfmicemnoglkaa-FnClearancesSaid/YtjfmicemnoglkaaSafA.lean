/- The supports above a limit: the program's. -/
import Derived.Test.YtjfmicemnoglkaaTenE
import Derived.Test.YtjfmicemnoglkaaSafP
import Derived.Test.YtjfmicemnoglkaaOwZ
namespace Go.Proofs.Ytjfmicemnoglkaa
open Go.RowKit
set_option linter.unusedVariables false
set_option linter.unusedSimpArgs false

/-- Numbers that are handed back, their count by name. -/
def RetM (w : World) (n : Nat) (zs : List Int) (e : Ending) (w' : World) : Prop := ∃ A c, e = .returned (.tuple #[.slice A n c, .bool true]) ∧ Ow w' w.heap.size (.slice A n c) zs ∧ Below w.heap.size w w'
theorem RetM.of {w w' : World} {n : Nat} {zs : List Int} {e : Ending} (hz : zs.length = n) (h : RetSB w zs true e w') : RetM w n zs e w' := by subst hz; exact h
theorem RetSB.old0 {wo w w2 : World} (h1 : Below wo.heap.size wo w) (hb : Below (w.alloc (.cells #[] 3)).heap.size (w.alloc (.cells #[] 3)) w2) : RetSB wo [] false (.returned (.tuple #[.slice (some ⟨w.heap.size, 0, none⟩) 0 0, .bool false])) w2 :=
  ⟨_, 0, rfl, (Ow.lit0 w _ h1.size).below hb, (h1.alloc h1.size _).trans (hb.mono (by have := h1.size; simp; omega))⟩
theorem OwZ.ret {wo w2 : World} {B : Nat} {v : Value} {zs : List Int} (h : OwZ w2 B v zs) (hB : wo.heap.size ≤ B) (h0 : ∀ ao, v = .slice ao 0 0 → Ow w2 wo.heap.size v []) : ∃ A c, v = .slice A zs.length c ∧ Ow w2 wo.heap.size (.slice A zs.length c) zs := by
  rcases h with ⟨ao, rfl, rfl⟩ | h
  · exact ⟨ao, 0, rfl, h0 ao rfl⟩
  · obtain ⟨A, c, rfl, _⟩ := h.shape
    exact ⟨A, c, rfl, h.base hB⟩
set_option maxRecDepth 100000 in
set_option maxHeartbeats 4000000 in
theorem impl_OverTension (A : Option Addr) (n c : Nat) (rows : List (List Int)) (x ct r lim : Int) (wo : World) (h : RdL wo A n rows) (hm : n ≤ 1048577) :
    Calls Try.prog 68 #[.slice A n c, .agg #[.int .i64 x, .int .i64 ct, .int .i64 r], .int .i64 lim] wo (RetSB wo (ovV rows x ct r lim) (ovOk rows x ct r lim)) := by
  have cu := fun w' (h' : RdL w' A n rows) => impl_upTensions A n c rows x ct r w' h' hm
  rcases hu : upOk rows x ct r with _ | _
  · have hk : ovOk rows x ct r lim = false := by simp [ovOk, hu]
    rw [hk, ov_no hk]
    rw [hu] at cu
    generalize upV rows x ct r = zs at *
    have CU := Lib.hid cu
    clear cu hk hu
    go_enter Try.func68, Try.ntmps68
    go_wp2_with fail
    (have hWV : Below wo.heap.size wo (wo.alloc (.cells #[.int .i64 x, .int .i64 ct, .int .i64 r] 70)) := (Below.refl _ _).alloc (Nat.le_refl _) _; have hV0 : wo.heap.size < (wo.alloc (.cells #[.int .i64 x, .int .i64 ct, .int .i64 r] 70)).heap.size := (by simp); have hv0 : (wo.alloc (.cells #[.int .i64 x, .int .i64 ct, .int .i64 r] 70)).cell? ⟨wo.heap.size, 0, none⟩ = some (.int .i64 x) := (by rw [cell_of_row _ _ _ _ _ _ (heap_alloc_new wo _)]; rfl); have hv1 : (wo.alloc (.cells #[.int .i64 x, .int .i64 ct, .int .i64 r] 70)).cell? ⟨wo.heap.size, 1, none⟩ = some (.int .i64 ct) := (by rw [cell_of_row _ _ _ _ _ _ (heap_alloc_new wo _)]; rfl); have hv2 : (wo.alloc (.cells #[.int .i64 x, .int .i64 ct, .int .i64 r] 70)).cell? ⟨wo.heap.size, 2, none⟩ = some (.int .i64 r) := (by rw [cell_of_row _ _ _ _ _ _ (heap_alloc_new wo _)]; rfl); have HHW := Lib.hid hWV; have HV1 : Hid (wo.heap.size + 1 = (wo.alloc (.cells #[.int .i64 x, .int .i64 ct, .int .i64 r] 70)).heap.size) := (show _ = _ by simp); generalize wo.alloc (.cells #[.int .i64 x, .int .i64 ct, .int .i64 r] 70) = w at hWV HHW hV0 HV1 hv0 hv1 hv2 ⊢; have HH := Lib.hid (h.below hWV); have hB : Below w.heap.size w w := Below.refl _ _; have hwz : wo.heap.size ≤ w.heap.size := hWV.size; (try rw [HV1.out]); clear hWV)
    go_wp2_with (go_at_call 127; refine (CU.out _ (by exact HH.out.below (by repeat (first | exact Below.refl _ _ | assumption | apply Below.drew | apply below_drewN | (refine Below.alloc ?_ (by first | omega | (simp; done) | (simp; omega)) _) | (refine Below.setCell ?_ (by first | omega | (simp; done) | (simp; omega)) _))))).mono ?_; rintro e w' ⟨A2, c2, rfl, ho, hb⟩; have hB : Below w.heap.size w w' := Below.thenn (by repeat (first | exact Below.refl _ _ | assumption | apply Below.drew | apply below_drewN | (refine Below.alloc ?_ (by first | omega | (simp; done) | (simp; omega)) _) | (refine Below.setCell ?_ (by first | omega | (simp; done) | (simp; omega)) _))) hb (by first | omega | (simp; done) | (simp; omega)); have O2 := Lib.hid ho; have hz : w.heap.size ≤ w'.heap.size := hB.size; (try (have hz1 : w.heap.size + 1 ≤ w'.heap.size := (by have h := hb.size; (try simp at h); omega))); have HQ := Lib.hid hb; obtain ⟨hc, hf⟩ := bcell hb; (have b0 := (hB.cell (p := ⟨wo.heap.size, 0, none⟩) hV0).trans hv0; have b1 := (hB.cell (p := ⟨wo.heap.size, 1, none⟩) hV0).trans hv1; have b2 := (hB.cell (p := ⟨wo.heap.size, 2, none⟩) hV0).trans hv2; have hVk : wo.heap.size < w'.heap.size := Nat.lt_of_lt_of_le hV0 hB.size); clear hb ho)
    go_ret2
    exact RetSB.nil (Below.thenn HHW.out (show Below w.heap.size w _ from (by repeat (first | exact Below.refl _ _ | assumption | apply Below.drew | apply below_drewN | (refine Below.alloc ?_ (by first | omega | (simp; done) | (simp; omega)) _) | (refine Below.setCell ?_ (by first | omega | (simp; done) | (simp; omega)) _)))) HHW.out.size)
  rcases hi : inr lim 0 1000000 with _ | _
  · have hk : ovOk rows x ct r lim = false := by simp [ovOk, hi]
    rw [hk, ov_no hk]
    rw [hu] at cu
    generalize upV rows x ct r = zs at *
    have CU := Lib.hid cu
    clear cu hk hu
    go_enter Try.func68, Try.ntmps68
    go_wp2_with fail
    (have hWV : Below wo.heap.size wo (wo.alloc (.cells #[.int .i64 x, .int .i64 ct, .int .i64 r] 70)) := (Below.refl _ _).alloc (Nat.le_refl _) _; have hV0 : wo.heap.size < (wo.alloc (.cells #[.int .i64 x, .int .i64 ct, .int .i64 r] 70)).heap.size := (by simp); have hv0 : (wo.alloc (.cells #[.int .i64 x, .int .i64 ct, .int .i64 r] 70)).cell? ⟨wo.heap.size, 0, none⟩ = some (.int .i64 x) := (by rw [cell_of_row _ _ _ _ _ _ (heap_alloc_new wo _)]; rfl); have hv1 : (wo.alloc (.cells #[.int .i64 x, .int .i64 ct, .int .i64 r] 70)).cell? ⟨wo.heap.size, 1, none⟩ = some (.int .i64 ct) := (by rw [cell_of_row _ _ _ _ _ _ (heap_alloc_new wo _)]; rfl); have hv2 : (wo.alloc (.cells #[.int .i64 x, .int .i64 ct, .int .i64 r] 70)).cell? ⟨wo.heap.size, 2, none⟩ = some (.int .i64 r) := (by rw [cell_of_row _ _ _ _ _ _ (heap_alloc_new wo _)]; rfl); have HHW := Lib.hid hWV; have HV1 : Hid (wo.heap.size + 1 = (wo.alloc (.cells #[.int .i64 x, .int .i64 ct, .int .i64 r] 70)).heap.size) := (show _ = _ by simp); generalize wo.alloc (.cells #[.int .i64 x, .int .i64 ct, .int .i64 r] 70) = w at hWV HHW hV0 HV1 hv0 hv1 hv2 ⊢; have HH := Lib.hid (h.below hWV); have hB : Below w.heap.size w w := Below.refl _ _; have hwz : wo.heap.size ≤ w.heap.size := hWV.size; (try rw [HV1.out]); clear hWV)
    go_wp2_with (first | (go_at_call 127; refine (CU.out _ (by exact HH.out.below (by repeat (first | exact Below.refl _ _ | assumption | apply Below.drew | apply below_drewN | (refine Below.alloc ?_ (by first | omega | (simp; done) | (simp; omega)) _) | (refine Below.setCell ?_ (by first | omega | (simp; done) | (simp; omega)) _))))).mono ?_; rintro e w' ⟨A2, c2, rfl, ho, hb⟩; have hB : Below w.heap.size w w' := Below.thenn (by repeat (first | exact Below.refl _ _ | assumption | apply Below.drew | apply below_drewN | (refine Below.alloc ?_ (by first | omega | (simp; done) | (simp; omega)) _) | (refine Below.setCell ?_ (by first | omega | (simp; done) | (simp; omega)) _))) hb (by first | omega | (simp; done) | (simp; omega)); have O2 := Lib.hid ho; have hz : w.heap.size ≤ w'.heap.size := hB.size; (try (have hz1 : w.heap.size + 1 ≤ w'.heap.size := (by have h := hb.size; (try simp at h); omega))); have HQ := Lib.hid hb; obtain ⟨hc, hf⟩ := bcell hb; (have b0 := (hB.cell (p := ⟨wo.heap.size, 0, none⟩) hV0).trans hv0; have b1 := (hB.cell (p := ⟨wo.heap.size, 1, none⟩) hV0).trans hv1; have b2 := (hB.cell (p := ⟨wo.heap.size, 2, none⟩) hV0).trans hv2; have hVk : wo.heap.size < w'.heap.size := Nat.lt_of_lt_of_le hV0 hB.size); clear hb ho) | (go_at_call 98; refine (impl_within _ _ _ _).mono ?_; rintro e w' ⟨rfl, rfl⟩))
    go_ret2
    exact RetSB.nil (Below.thenn HHW.out (show Below w.heap.size w _ from (by repeat (first | exact Below.refl _ _ | assumption | apply Below.drew | apply below_drewN | (refine Below.alloc ?_ (by first | omega | (simp; done) | (simp; omega)) _) | (refine Below.setCell ?_ (by first | omega | (simp; done) | (simp; omega)) _)))) HHW.out.size)
  · have hk : ovOk rows x ct r lim = true := by simp [ovOk, hi, hu]
    rw [hk, ov_yes hk, h.2.1]
    obtain ⟨hl, hc, hub⟩ := upOk_iff.1 hu
    have L := lineOk_line hl
    have hlo := L.lo
    have hhi := L.hi
    rw [up_yes hu, hu] at cu
    rw [h.2.1] at cu hlo hhi
    have l1 := tnL_len rows x ct r n
    have ez := Lib.hid (fun (j : Nat) (hj : j < n) => tnL_at (rows := rows) (w := x) (c := ct) (R := r) hj)
    generalize tnN rows x ct r = f at *
    generalize tnL rows x ct r n = zs at *
    have CU2 : Hid (∀ w', RdL w' A n rows → Calls Try.prog 127 #[.slice A n c, .agg #[.int .i64 x, .int .i64 ct, .int .i64 r]] w' (RetM w' n zs)) := Lib.hid (fun w' h' => (cu w' h').mono (fun _ _ hq => RetM.of l1 hq))
    clear cu hk hl hc hub L l1 hu
    go_enter Try.func68, Try.ntmps68
    go_wp2_with fail
    (have hWV : Below wo.heap.size wo (wo.alloc (.cells #[.int .i64 x, .int .i64 ct, .int .i64 r] 70)) := (Below.refl _ _).alloc (Nat.le_refl _) _; have hV0 : wo.heap.size < (wo.alloc (.cells #[.int .i64 x, .int .i64 ct, .int .i64 r] 70)).heap.size := (by simp); have hv0 : (wo.alloc (.cells #[.int .i64 x, .int .i64 ct, .int .i64 r] 70)).cell? ⟨wo.heap.size, 0, none⟩ = some (.int .i64 x) := (by rw [cell_of_row _ _ _ _ _ _ (heap_alloc_new wo _)]; rfl); have hv1 : (wo.alloc (.cells #[.int .i64 x, .int .i64 ct, .int .i64 r] 70)).cell? ⟨wo.heap.size, 1, none⟩ = some (.int .i64 ct) := (by rw [cell_of_row _ _ _ _ _ _ (heap_alloc_new wo _)]; rfl); have hv2 : (wo.alloc (.cells #[.int .i64 x, .int .i64 ct, .int .i64 r] 70)).cell? ⟨wo.heap.size, 2, none⟩ = some (.int .i64 r) := (by rw [cell_of_row _ _ _ _ _ _ (heap_alloc_new wo _)]; rfl); have HHW := Lib.hid hWV; have HV1 : Hid (wo.heap.size + 1 = (wo.alloc (.cells #[.int .i64 x, .int .i64 ct, .int .i64 r] 70)).heap.size) := (show _ = _ by simp); generalize wo.alloc (.cells #[.int .i64 x, .int .i64 ct, .int .i64 r] 70) = w at hWV HHW hV0 HV1 hv0 hv1 hv2 ⊢; have HH := Lib.hid (h.below hWV); have hB : Below w.heap.size w w := Below.refl _ _; have hwz : wo.heap.size ≤ w.heap.size := hWV.size; (try rw [HV1.out]); clear hWV)
    go_wp2_with (first | (go_at_call 127; refine (CU2.out _ (by exact HH.out.below (by repeat (first | exact Below.refl _ _ | assumption | apply Below.drew | apply below_drewN | (refine Below.alloc ?_ (by first | omega | (simp; done) | (simp; omega)) _) | (refine Below.setCell ?_ (by first | omega | (simp; done) | (simp; omega)) _))))).mono ?_; rintro e w' ⟨A2, c2, rfl, ho, hb⟩; have hB : Below w.heap.size w w' := Below.thenn (by repeat (first | exact Below.refl _ _ | assumption | apply Below.drew | apply below_drewN | (refine Below.alloc ?_ (by first | omega | (simp; done) | (simp; omega)) _) | (refine Below.setCell ?_ (by first | omega | (simp; done) | (simp; omega)) _))) hb (by first | omega | (simp; done) | (simp; omega)); have O2 := Lib.hid ho; have hz : w.heap.size ≤ w'.heap.size := hB.size; (try (have hz1 : w.heap.size + 1 ≤ w'.heap.size := (by have h := hb.size; (try simp at h); omega))); have HQ := Lib.hid hb; obtain ⟨hc, hf⟩ := bcell hb; (have b0 := (hB.cell (p := ⟨wo.heap.size, 0, none⟩) hV0).trans hv0; have b1 := (hB.cell (p := ⟨wo.heap.size, 1, none⟩) hV0).trans hv1; have b2 := (hB.cell (p := ⟨wo.heap.size, 2, none⟩) hV0).trans hv2; have hVk : wo.heap.size < w'.heap.size := Nat.lt_of_lt_of_le hV0 hB.size); clear hb ho) | (go_at_call 98; refine (impl_within _ _ _ _).mono ?_; rintro e w' ⟨rfl, rfl⟩))
    obtain ⟨p1, o1, v1, rfl, _, hc1⟩ := O2.out.rd.at1 (k := 0) (by omega)
    have hp1 : p1 < w'.heap.size := World.block_lt_of_cell? _ _ hc1
    clear hc1
    have CE : Hid (∀ j : Nat, j < n → w'.cell? ⟨p1, o1 + j, none⟩ = some (.int .i64 (f j))) := Lib.hid (fun (j : Nat) (hj : j < n) => by
      obtain ⟨p2, o2, v2, e2, hv2, hc2⟩ := O2.out.rd.at1 (k := j) hj
      injection e2 with e2
      injection e2 with e3 e4
      subst e3 e4
      rw [ez.out j hj] at hv2
      injection hv2 with hv2
      rw [← hv2] at hc2
      exact hc2)
    have hwz2 : wo.heap.size ≤ w'.heap.size := by omega
    clear hc hf b0 b1 b2
    go_loopg [10, 29] n (fun g out i wr => ∃ (k : Nat) (A' : Option Addr) (m c' : Nat), k ≤ n ∧ n ≤ k + g ∧ m ≤ k ∧ i = .int .i64 k ∧ out = .slice A' m c' ∧ Below w'.heap.size w' wr ∧ w'.heap.size ≤ wr.heap.size ∧ Hid (OwZ wr w'.heap.size (.slice A' m c') (ovL f lim k)) ∧ Hid (∀ ao, Value.slice A' m c' = .slice ao 0 0 → Ow wr wo.heap.size (.slice A' m c') []))
    case atStart => exact ⟨0, _, 0, 0, by omega, by omega, by omega, rfl, rfl, (Below.refl w'.heap.size w').alloc (Nat.le_refl _) _, (by simp), .inl ⟨_, rfl, rfl⟩, (show ∀ ao, _ → _ from fun ao e => Ow.lit0 w' _ hwz2)⟩
    case round =>
      obtain ⟨k, A', m, c', hk1, hk2, hmk, rfl, rfl, hBr, hzr, HO, HZ⟩ := hrel
      have hpr : p1 < wr.heap.size := Nat.lt_of_lt_of_le hp1 hBr.size
      have HL := Lib.hid HO.out.len
      by_cases hlt : k < n
      · have ck := (hBr.cell (p := ⟨p1, o1 + k, none⟩) hp1).trans (CE.out k hlt)
        have HT := Lib.hid (fun hh => ovL_take (f := f) (lim := lim) (k := k) hh)
        have HK := Lib.hid (fun hh => ovL_keep (f := f) (lim := lim) (k := k) hh)
        obtain ⟨z, hz9⟩ : ∃ z, f k = z := ⟨_, rfl⟩
        rw [hz9] at ck HT HK
        clear hz9
        by_cases ht : lim < z
        · have hd : decide (lim < z) = true := decide_eq_true ht
          have HN := Lib.hid (HT.out ht)
          clear ht
          go_wp2_with (at_builtin; refine wp_app_intZ rfl (.tmp 37) (.tmp 39) rfl wr w'.heap.size _ (ovL f lim k) (k : Int) rfl HO.out rfl (by have := HL.out; omega) hzr ?_; intro A5 c5 w5 hown1 hb1; have HO5 := Lib.hid hown1; have HB5 := Lib.hid hb1; clear hown1 hb1)
          go_roundg (n - (k + 1))
          case measure => omega
          case rel => exact ⟨k + 1, A5, (ovL f lim k ++ [(k : Int)]).length, c5, by omega, by omega, (by have := HL.out; simp; omega), by go_num, (by simp), Below.trans hBr HB5.out, Nat.le_trans hzr HB5.out.size, (show OwZ _ _ _ _ by rw [HN.out]; exact .inr HO5.out), (show ∀ ao, _ → _ from fun ao e => by injection e with _ e _; simp at e)⟩
        · have hd : decide (lim < z) = false := decide_eq_false ht
          have HN := Lib.hid (HK.out ht)
          clear ht
          go_wp2_with fail
          go_roundg (n - (k + 1))
          case measure => omega
          case rel => exact ⟨k + 1, A', m, c', by omega, by omega, by omega, by go_num, rfl, hBr, hzr, (show OwZ _ _ _ _ by rw [HN.out]; exact HO.out), HZ⟩
      · have hkn : k = n := by omega
        have hfin : Below wo.heap.size wo wr := Below.thenn HHW.out (Below.thenn hB hBr hB.size) HHW.out.size
        have HR := Lib.hid (OwZ.ret HO.out hwz2 HZ.out)
        have HKN := Lib.hid hkn
        clear hkn
        go_wp2_with fail
        go_ret2
        obtain ⟨A9, c9, e9, ho9⟩ := HR.out
        rw [HKN.out] at ho9 e9
        exact ⟨A9, c9, by rw [← e9]; rfl, ho9, hfin⟩
end Go.Proofs.Ytjfmicemnoglkaa
