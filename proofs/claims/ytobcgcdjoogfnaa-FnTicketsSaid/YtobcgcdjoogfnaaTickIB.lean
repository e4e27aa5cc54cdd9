/- The tickets: a ticket is sold, the program's. -/
import Derived.Test.YtobcgcdjoogfnaaTickI
import Derived.Deep.RegionLaw
namespace Go.Proofs.Ytobcgcdjoogfnaa
open Go.RowKit
set_option linter.unusedVariables false
set_option linter.unusedSimpArgs false

set_option maxRecDepth 100000 in
set_option maxHeartbeats 2000000 in
theorem impl_SellTicket (A : Option Addr) (n c : Nat) (rows : List (List Int)) (kind day : Int) (w : World) (h : RdR w 5 A n rows) (hm : n ≤ 1048576) (hA : A = none → c = 0 ∧ rows.length = 0) :
    Calls Try.prog 38 #[.slice A n c, .int .i64 kind, .int .i64 day] w (RetRIB w 25 5 (sellV rows kind day) (sellZ rows kind day) (sellOk rows kind day)) := by
  have hl := Lib.hid h.2.2
  rcases hg : good rows with _ | _
  · have CG := Lib.hid (fun w' (h' : RdR w' 5 A n rows) => hg ▸ impl_AreTickets A n c rows w' h' (by omega))
    rw [show sellV rows kind day = [] by simp [sellV, sellOk, hg], show sellZ rows kind day = 0 by simp [sellZ, sellOk, hg], show sellOk rows kind day = false by simp [sellOk, hg]]
    clear hg
    go_enter Try.func38, Try.ntmps38
    go_wp2_with (go_at_call 31; refine (CG.out _ h).mono ?_; rintro e w' ⟨rfl, hb⟩; have hB : Below w.heap.size w w' := Below.thenn (by repeat (first | exact Below.refl _ _ | assumption | apply Below.drew | apply below_drewN | (refine Below.alloc ?_ (by first | omega | (simp; done) | (simp; omega)) _) | (refine Below.setCell ?_ (by first | omega | (simp; done) | (simp; omega)) _))) hb (by first | omega | (simp; done) | (simp; omega)); have hz : w.heap.size ≤ w'.heap.size := hB.size; (try (have hz1 : w.heap.size + 1 ≤ w'.heap.size := (by have h := hb.size; (try simp at h); omega))); obtain ⟨hc, hf⟩ := bcell hb; clear hb)
    go_ret3
    exact RetRIB.nil hB
  have CG := Lib.hid (fun w' (h' : RdR w' 5 A n rows) => hg ▸ impl_AreTickets A n c rows w' h' (by omega))
  generalize hV : sellV rows kind day = V
  generalize hZr : sellZ rows kind day = Zr
  generalize hO : sellOk rows kind day = O
  have HV := Lib.hid hV
  have HZr := Lib.hid hZr
  have HO := Lib.hid hO
  have HG := Lib.hid hg
  clear hV hZr hO hg
  go_enter Try.func38, Try.ntmps38
  go_upto_if 19 with (go_at_call 31; refine (CG.out _ h).mono ?_; rintro e w' ⟨rfl, hb⟩; have hB : Below w.heap.size w w' := Below.thenn (by repeat (first | exact Below.refl _ _ | assumption | apply Below.drew | apply below_drewN | (refine Below.alloc ?_ (by first | omega | (simp; done) | (simp; omega)) _) | (refine Below.setCell ?_ (by first | omega | (simp; done) | (simp; omega)) _))) hb (by first | omega | (simp; done) | (simp; omega)); have hz : w.heap.size ≤ w'.heap.size := hB.size; (try (have hz1 : w.heap.size + 1 ≤ w'.heap.size := (by have h := hb.size; (try simp at h); omega))); obtain ⟨hc, hf⟩ := bcell hb; clear hb)
  go_cut [9] (fun s9 wx => ∃ (g : Nat) (z : Int), s9 = .pointer (some ⟨g, 0, none⟩) ∧ w.heap.size ≤ g ∧ g < wx.heap.size ∧ Below w.heap.size w wx ∧ wx.cell? ⟨g, 0, none⟩ = some (.int .i64 z) ∧ wx.cell? ⟨g, 1, none⟩ = some (.int .i64 kind) ∧ wx.cell? ⟨g, 2, none⟩ = some (.int .i64 day) ∧ wx.cell? ⟨g, 3, none⟩ = some (.int .i64 0) ∧ wx.cell? ⟨g, 4, none⟩ = some (.int .i64 0) ∧ Hid (z = sellN rows))
  case first =>
    by_cases h0 : 0 < n
    · obtain ⟨b, off, x0, x1, x2, x3, x4, rfl, hr, hblt, c0, c1, c2, c3, c4⟩ := h.row5 (k := n - 1) (by omega)
      have hd := (goodR HG.out hr).1
      have hd0 : 1 ≤ x0 := by omega
      have hd1 : x0 ≤ 9999 := by omega
      have HZ : Hid (x0 + 1 = sellN rows) := by
        have e := prevN_next hr
        rw [show n - 1 + 1 = n by omega] at e
        show _ = _
        unfold sellN
        rw [hl.out, e]
        rfl
      have hk3 : 0 ≤ (n : Int) - 1 := by omega
      have hk5 : ((n : Int) - 1).toNat = n - 1 := by omega
      rw [← hB.cell (p := ⟨b, _, none⟩) hblt] at c0
      have hbr : b < w'.heap.size := by omega
      have hne : b ≠ w'.heap.size := by omega
      have hca : ∀ o, (w'.alloc o).cell? ⟨b, off + (n - 1) * 5, none⟩ = some (.int .i64 x0) := fun o => by rw [World.cell?_alloc_lt _ _ _ hbr]; exact c0
      clear hr hd c1 c2 c3 c4
      go_wp2_with fail
      go_meet
      exact ⟨_, _, rfl, hz, (by simp [World.setCell]), (by repeat (first | exact Below.refl _ _ | assumption | apply Below.drew | apply below_drewN | (refine Below.alloc ?_ (by first | omega | (simp; done) | (simp; omega)) _) | (refine Below.setCell ?_ (by first | omega | (simp; done) | (simp; omega)) _))), (by simp [go_sem]), (by simp [go_sem]), (by simp [go_sem]), (by simp [go_sem]), (by simp [go_sem]), HZ⟩
    · have HZ : Hid ((1 : Int) = sellN rows) := by
        show _ = _
        unfold sellN
        rw [hl.out, show n = 0 by omega, prevN_zero]
        rfl
      go_wp2_with fail
      go_meet
      exact ⟨_, _, rfl, hz, (by simp [World.setCell]), (by repeat (first | exact Below.refl _ _ | assumption | apply Below.drew | apply below_drewN | (refine Below.alloc ?_ (by first | omega | (simp; done) | (simp; omega)) _) | (refine Below.setCell ?_ (by first | omega | (simp; done) | (simp; omega)) _))), (by simp [go_sem]), (by simp [go_sem]), (by simp [go_sem]), (by simp [go_sem]), (by simp [go_sem]), HZ⟩
  case rest =>
    clear hB hz hc hf
    obtain ⟨g, z, rfl, hgz, hgs, hBc, t0, t1, t2, t3, t4, HZ⟩ := hcut
    obtain ⟨wd, rfl⟩ : ∃ wd, wd = wc := ⟨_, rfl⟩
    have hsl : sellL rows kind day = rows ++ [[z, kind, day, 0, 0]] := by unfold sellL; rw [← HZ.out]
    have hln : (rows ++ [[z, kind, day, 0, 0]]).length = n + 1 := by simp [hl.out]
    have hsz : w.heap.size ≤ wd.heap.size := hBc.size
    have HH := Lib.hid h
    clear h
    go_wp2_with fail
    have hA2 : A = none → c = 0 ∧ n = 0 := fun e => ⟨(hA e).1, by have := (hA e).2; have := hl.out; omega⟩
    go_cut [10] (fun s10 wx => ∃ (A2 : Option Addr) (c2 : Nat), s10 = .slice A2 (n + 1) c2 ∧ Below wd.heap.size wd wx ∧ Hid (OwR wx w.heap.size 25 5 (.slice A2 (n + 1) c2) (rows ++ [[z, kind, day, 0, 0]])))
    case first =>
      go_region_law (first | (go_simp; go_at_call 71; refine (slices_Clone_Ticket A n c rows _ (HH.out.below (by repeat (first | exact Below.refl _ _ | assumption | apply Below.drew | apply below_drewN | (refine Below.alloc ?_ (by first | omega | (simp; done) | (simp; omega)) _) | (refine Below.setCell ?_ (by first | omega | (simp; done) | (simp; omega)) _)))) (by omega) hA2).mono ?_; rintro e w1 ⟨A1, c1, rfl, ho1, hb1⟩; have ho1 : OwR w1 wd.heap.size 25 5 (.slice A1 rows.length c1) rows := ⟨ho1.1.base (by first | omega | (simp; done) | (simp; omega)), ho1.2⟩; have hs1 : wd.heap.size ≤ w1.heap.size := (by have h := hb1.size; (try simp at h); omega); have hBw : Below wd.heap.size wd w1 := Below.thenn (by repeat (first | exact Below.refl _ _ | apply Below.drew | apply below_drewN | (refine Below.alloc ?_ (by first | omega | (simp; done) | (simp; omega)) _))) hb1 (by first | omega | (simp; done) | (simp; omega)); (try (have hk2 : RdR w1 5 (some ⟨wd.heap.size, 0, none⟩) 1 [[z, kind, day, 0, 0]] := RdR.below (RdR.one_Ticket z kind day 0 0 wd.drew) hb1)); (try (have hk2 : RdR w1 5 (some ⟨wd.heap.size, 0, none⟩) 1 [[z, kind, day, 0, 0]] := RdR.below (RdR.one_Ticket z kind day 0 0 wd) hb1)); (have q0 := (hBw.cell (p := ⟨g, 0, none⟩) hgs).trans t0); (have q1 := (hBw.cell (p := ⟨g, 1, none⟩) hgs).trans t1); (have q2 := (hBw.cell (p := ⟨g, 2, none⟩) hgs).trans t2); (have q3 := (hBw.cell (p := ⟨g, 3, none⟩) hgs).trans t3); (have q4 := (hBw.cell (p := ⟨g, 4, none⟩) hgs).trans t4); clear hb1) | (refine step_app_TicketS rfl (.tmp 30) (.tmp 32) rfl w1 wd.heap.size (.slice A1 rows.length c1) rows rfl ho1 (some ⟨wd.heap.size, 0, none⟩) 1 1 [[z, kind, day, 0, 0]] rfl hk2 (by have := hl.out; omega) (by omega) ?_; intro A2 c2 w2 ho2 hb2) | (refine step_app_TicketS rfl (.tmp 30) (.tmp 32) rfl (w1.alloc (.cells #[.int .i64 z, .int .i64 kind, .int .i64 day, .int .i64 0, .int .i64 0] 25)) wd.heap.size (.slice A1 rows.length c1) rows rfl (ho1.below ((Below.refl _ _).alloc (Nat.le_refl _) _)) (some ⟨w1.heap.size, 0, none⟩) 1 1 [[z, kind, day, 0, 0]] rfl (RdR.one_Ticket _ _ _ _ _ w1) (by have := hl.out; omega) (by simp; omega) ?_; intro A2 c2 w2 ho2 hb2))
      all_goals go_wp2_with fail
      all_goals go_meet
      all_goals (rw [hln] at ho2; exact ⟨_, _, rfl, (by first | exact hBw.trans hb2 | exact (hBw.alloc (by omega) _).trans hb2), ⟨ho2.1.base (by omega), ho2.2⟩⟩)
    case rest =>
      obtain ⟨A2, c2, rfl, hBn, ho⟩ := hcut
      have hBx : Below w.heap.size w wc := Below.thenn hBc hBn (by omega)
      have hgc : g < wc.heap.size := by have := hBn.size; omega
      have q0 := (hBn.cell (p := ⟨g, 0, none⟩) hgs).trans t0
      clear t0 t1 t2 t3 t4 hgs hBn hBc hsz
      have hsz : w.heap.size ≤ wc.heap.size := hBx.size
      rcases hg2 : good (rows ++ [[z, kind, day, 0, 0]]) with _ | _
      · obtain rfl : V = [] := by rw [← HV.out]; simp [sellV, sellOk, hsl, hg2]
        obtain rfl : Zr = 0 := by rw [← HZr.out]; simp [sellZ, sellOk, hsl, hg2]
        obtain rfl : O = false := by rw [← HO.out]; simp [sellOk, hsl, hg2]
        have CG2 := Lib.hid (fun (w' : World) (h' : RdR w' 5 A2 (n + 1) (rows ++ [[z, kind, day, 0, 0]])) => hg2 ▸ impl_AreTickets A2 (n + 1) c2 (rows ++ [[z, kind, day, 0, 0]]) w' h' (by omega))
        have hr3 : RdR wc 5 A2 (n + 1) (rows ++ [[z, kind, day, 0, 0]]) := ⟨by have := ho.out.1.rd; rw [hln] at this; exact this, ho.out.2, hln⟩
        clear HV HZr HO hg2 hsl
        go_wp2_with (go_at_call 31; refine (CG2.out _ hr3).mono ?_; rintro e w' ⟨rfl, hb⟩; have hB : Below w.heap.size w w' := Below.thenn (by repeat (first | exact Below.refl _ _ | assumption | apply Below.drew | apply below_drewN | (refine Below.alloc ?_ (by first | omega | (simp; done) | (simp; omega)) _) | (refine Below.setCell ?_ (by first | omega | (simp; done) | (simp; omega)) _))) hb (by first | omega | (simp; done) | (simp; omega)); have hz : w.heap.size ≤ w'.heap.size := hB.size; (try (have hz1 : w.heap.size + 1 ≤ w'.heap.size := (by have h := hb.size; (try simp at h); omega))); obtain ⟨hc, hf⟩ := bcell hb; clear hb)
        go_ret3
        exact RetRIB.nil hB
      · obtain rfl : V = rows ++ [[z, kind, day, 0, 0]] := by rw [← HV.out]; simp [sellV, sellOk, hsl, HG.out, hg2]
        obtain rfl : z = Zr := by rw [← HZr.out]; simp [sellZ, sellOk, hsl, HG.out, hg2]; exact HZ.out
        obtain rfl : O = true := by rw [← HO.out]; simp [sellOk, hsl, HG.out, hg2]
        have CG2 := Lib.hid (fun (w' : World) (h' : RdR w' 5 A2 (n + 1) (rows ++ [[z, kind, day, 0, 0]])) => hg2 ▸ impl_AreTickets A2 (n + 1) c2 (rows ++ [[z, kind, day, 0, 0]]) w' h' (by omega))
        have hr3 : RdR wc 5 A2 (n + 1) (rows ++ [[z, kind, day, 0, 0]]) := ⟨by have := ho.out.1.rd; rw [hln] at this; exact this, ho.out.2, hln⟩
        clear HV HZr HO hg2 hsl
        go_wp2_with (go_at_call 31; refine (CG2.out _ hr3).mono ?_; rintro e w' ⟨rfl, hb⟩; have hB : Below w.heap.size w w' := Below.thenn (by repeat (first | exact Below.refl _ _ | assumption | apply Below.drew | apply below_drewN | (refine Below.alloc ?_ (by first | omega | (simp; done) | (simp; omega)) _) | (refine Below.setCell ?_ (by first | omega | (simp; done) | (simp; omega)) _))) hb (by first | omega | (simp; done) | (simp; omega)); have hz : w.heap.size ≤ w'.heap.size := hB.size; (try (have hz1 : w.heap.size + 1 ≤ w'.heap.size := (by have h := hb.size; (try simp at h); omega))); obtain ⟨hc, hf⟩ := bcell hb; have ho3 := Lib.hid (ho.out.below hb); have hgc' : g < w'.heap.size := Nat.lt_of_lt_of_le hgc hb.size; clear hb)
        (refine wp_region_ext (by kernel_rfl) (by kernel_rfl) ?_; have hxe := ext_cells; (repeat (go_big_quiet_step (fail))); refine wpQuiet_nil ?_; intro w' hw'; obtain ⟨nx, hw''⟩ := hw'; have hbx := ext_out hw''; clear hw'' nx hxe; have hB : Below w.heap.size w w' := Below.thenn (by repeat (first | exact Below.refl _ _ | assumption | apply Below.drew | apply below_drewN | (refine Below.alloc ?_ (by first | omega | (simp; done) | (simp; omega)) _) | (refine Below.setCell ?_ (by first | omega | (simp; done) | (simp; omega)) _))) hbx (by first | omega | (simp; done) | (simp; omega)); have hz : w.heap.size ≤ w'.heap.size := hB.size; obtain ⟨hc, hf⟩ := bcell hbx; have ho4 := Lib.hid (ho3.out.below hbx); clear hbx)
        go_wp2_with fail
        go_ret3
        exact ⟨A2, c2, ret_sib hln.symm, by rw [hln]; exact ho4.out, hB⟩
end Go.Proofs.Ytobcgcdjoogfnaa
