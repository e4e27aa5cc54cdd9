/- The tickets: a ticket is sold. -/
import Derived.Test.YtobcgcdjoogfnaaTickF
import Derived.Test.YtobcgcdjoogfnaaFlTicketC
namespace Go.Proofs.Ytobcgcdjoogfnaa
open Go.RowKit
set_option linter.unusedVariables false
set_option linter.unusedSimpArgs false

theorem RdR.cast_ {w : World} {F n m : Nat} {A : Option Addr} {rows : List (List Int)} (h : RdR w F A n rows) (e : n = m) : RdR w F A m rows := e ▸ h
theorem ret_sib {A : Option Addr} {n m c : Nat} {z : Int} {b : Bool} (h : n = m) : Ending.returned (.tuple #[.slice A n c, .int .i64 z, .bool b]) = .returned (.tuple #[.slice A m c, .int .i64 z, .bool b]) := by rw [h]
/-- Rows, a number and a bool. -/
def RetRIB (w : World) (e : TypeId) (F : Nat) (rows : List (List Int)) (z : Int) (b : Bool) (en : Ending) (w' : World) : Prop :=
  ∃ A c, en = .returned (.tuple #[.slice A rows.length c, .int .i64 z, .bool b]) ∧ OwR w' w.heap.size e F (.slice A rows.length c) rows ∧ Below w.heap.size w w'
def sellN (rows : List (List Int)) : Int := prevN rows rows.length + 1
def sellL (rows : List (List Int)) (kind day : Int) : List (List Int) := rows ++ [[sellN rows, kind, day, 0, 0]]
def sellOk (rows : List (List Int)) (kind day : Int) : Bool := good rows && good (sellL rows kind day)
def sellV (rows : List (List Int)) (kind day : Int) : List (List Int) := if sellOk rows kind day then sellL rows kind day else []
def sellZ (rows : List (List Int)) (kind day : Int) : Int := if sellOk rows kind day then sellN rows else 0
theorem sellV_len {rows : List (List Int)} {kind day : Int} (h : rows.length ≤ 1048576) : (sellV rows kind day).length ≤ 1048577 := by
  unfold sellV sellL; split <;> simp <;> omega
theorem RetRIB.nil {w w' : World} {e : TypeId} {F : Nat} (h : Below w.heap.size w w') : RetRIB w e F [] 0 false (.returned (.tuple #[.slice none 0 0, .int .i64 0, .bool false])) w' := ⟨none, 0, rfl, OwR.nil _ _ _ _, h⟩

set_option maxRecDepth 100000 in
set_option maxHeartbeats 2000000 in
theorem spec_SellTicket (A : Option Addr) (n c : Nat) (rows : List (List Int)) (kind day : Int) (w : World) (h : RdR w 5 A n rows) (hm : n ≤ 1048576) :
    Calls Try.prog 37 #[.slice A n c, .int .i64 kind, .int .i64 day] w (RetRIB w 25 5 (sellV rows kind day) (sellZ rows kind day) (sellOk rows kind day)) := by
  have hl := Lib.hid h.2.2
  generalize hV : sellV rows kind day = V
  generalize hZr : sellZ rows kind day = Zr
  generalize hO : sellOk rows kind day = O
  have HV := Lib.hid hV
  have HZr := Lib.hid hZr
  have HO := Lib.hid hO
  clear hV hZr hO
  go_enter Try.func37, Try.ntmps37
  go_upto_if 15 with fail
  go_cut [9] (fun s9 wx => ∃ z : Int, s9 = .int .i64 z ∧ w = wx ∧ Hid (good rows = true → z = sellN rows))
  case first =>
    by_cases h0 : 0 < n
    · obtain ⟨b, off, x0, x1, x2, x3, x4, rfl, hr, hblt, c0, c1, c2, c3, c4⟩ := h.row5 (k := n - 1) (by omega)
      have HZ : Hid (good rows = true → wrap64 (x0 + 1) = sellN rows) := by
        intro hg
        have hd := (goodR hg hr).1
        have e := prevN_next hr
        rw [show n - 1 + 1 = n by omega] at e
        unfold sellN
        rw [hl.out, e, IntWalk.wrap64_in _ (by omega)]
        rfl
      have hk3 : 0 ≤ (n : Int) - 1 := by omega
      have hk5 : ((n : Int) - 1).toNat = n - 1 := by omega
      clear hr
      go_wp2_with fail
      go_meet
      exact ⟨_, rfl, rfl, HZ⟩
    · have HZ : Hid (good rows = true → (1 : Int) = sellN rows) := by
        intro hg
        unfold sellN
        rw [hl.out, show n = 0 by omega, prevN_zero]
        rfl
      go_wp2_with fail
      go_meet
      exact ⟨_, rfl, rfl, HZ⟩
  case rest =>
    obtain ⟨z, rfl, rfl, HZ⟩ := hcut
    rcases hg : good rows with _ | _
    · obtain rfl : V = [] := by rw [← HV.out]; simp [sellV, sellOk, hg]
      obtain rfl : Zr = 0 := by rw [← HZr.out]; simp [sellZ, sellOk, hg]
      obtain rfl : O = false := by rw [← HO.out]; simp [sellOk, hg]
      clear HV HZr HO
      have CG := Lib.hid (fun (A : Option Addr) (c : Nat) w' (h' : RdR w' 5 A n rows) => hg ▸ spec_l11Good A n c rows w' h' (by omega))
      clear hg
      go_wp2_with (first | (at_builtin; first | (refine wp_app_TicketS rfl (.tmp 23) (.tmp 24) rfl (w.alloc (.cells #[] 25)) w.heap.size (.slice (some ⟨w.heap.size, 0, none⟩) 0 0) [] rfl (OwR.lit0 w w.heap.size _ _ (Nat.le_refl _)) A n c rows rfl (h.below ((Below.refl _ _).alloc (Nat.le_refl _) _)) (by simp; omega) (by simp) ?_; intro A1 c1 w1 ho1 hb1; rw [List.nil_append] at ho1; have hB1 : Below w.heap.size w w1 := ((Below.refl _ _).alloc (Nat.le_refl _) _).trans hb1; have hz1 : w.heap.size + 1 ≤ w1.heap.size := (by have := hb1.size; simp at this; omega)) | (refine wp_app_TicketS rfl (.tmp 25) (.tmp 30) rfl (w1.alloc (.cells #[.int .i64 z, .int .i64 kind, .int .i64 day, .int .i64 0, .int .i64 0] 25)) w.heap.size (.slice A1 rows.length c1) rows rfl (ho1.below ((Below.refl _ _).alloc (Nat.le_refl _) _)) (some ⟨w1.heap.size, 0, none⟩) 1 1 [[z, kind, day, 0, 0]] rfl (RdR.one_Ticket _ _ _ _ _ w1) (by have := hl.out; omega) (by simp; omega) ?_; intro A2 c2 w2 ho2 hb2; have hB2 : Below w.heap.size w w2 := (hB1.alloc (by omega) _).trans hb2; have hz2 : w.heap.size ≤ w2.heap.size := hB2.size)) | (go_at_call 69; refine (CG.out _ _ _ (h.below hB2)).mono ?_; rintro e w' ⟨rfl, hb⟩; have hB : Below w.heap.size w w' := Below.thenn (by repeat (first | exact Below.refl _ _ | assumption | apply Below.drew | apply below_drewN | (refine Below.alloc ?_ (by first | omega | (simp; done) | (simp; omega)) _) | (refine Below.setCell ?_ (by first | omega | (simp; done) | (simp; omega)) _))) hb (by first | omega | (simp; done) | (simp; omega)); have hz : w.heap.size ≤ w'.heap.size := hB.size; (try (have hz1 : w.heap.size + 1 ≤ w'.heap.size := (by have h := hb.size; (try simp at h); omega))); obtain ⟨hc, hf⟩ := bcell hb; clear hb))
      go_ret3
      exact ⟨_, _, rfl, OwR.lit0 _ _ _ _ hz, (by repeat (first | exact Below.refl _ _ | assumption | apply Below.drew | apply below_drewN | (refine Below.alloc ?_ (by first | omega | (simp; done) | (simp; omega)) _) | (refine Below.setCell ?_ (by first | omega | (simp; done) | (simp; omega)) _)))⟩
    · have hzz := HZ.out hg
      have hsl : sellL rows kind day = rows ++ [[z, kind, day, 0, 0]] := by unfold sellL; rw [← hzz]
      have hln : (rows ++ [[z, kind, day, 0, 0]]).length = n + 1 := by simp [hl.out]
      have CG := Lib.hid (fun (A : Option Addr) (c : Nat) w' (h' : RdR w' 5 A n rows) => hg ▸ spec_l11Good A n c rows w' h' (by omega))
      rcases hg2 : good (rows ++ [[z, kind, day, 0, 0]]) with _ | _
      · obtain rfl : V = [] := by rw [← HV.out]; simp [sellV, sellOk, hsl, hg2]
        obtain rfl : Zr = 0 := by rw [← HZr.out]; simp [sellZ, sellOk, hsl, hg2]
        obtain rfl : O = false := by rw [← HO.out]; simp [sellOk, hsl, hg2]
        clear HV HZr HO
        have CG2 := Lib.hid (fun (A : Option Addr) (m c : Nat) w' (h' : RdR w' 5 A m (rows ++ [[z, kind, day, 0, 0]])) (hm' : m ≤ 1048577) => hg2 ▸ spec_l11Good A m c (rows ++ [[z, kind, day, 0, 0]]) w' h' hm')
        clear hg hg2 hzz hsl
        go_wp2_with (first | (at_builtin; first | (refine wp_app_TicketS rfl (.tmp 23) (.tmp 24) rfl (w.alloc (.cells #[] 25)) w.heap.size (.slice (some ⟨w.heap.size, 0, none⟩) 0 0) [] rfl (OwR.lit0 w w.heap.size _ _ (Nat.le_refl _)) A n c rows rfl (h.below ((Below.refl _ _).alloc (Nat.le_refl _) _)) (by simp; omega) (by simp) ?_; intro A1 c1 w1 ho1 hb1; rw [List.nil_append] at ho1; have hB1 : Below w.heap.size w w1 := ((Below.refl _ _).alloc (Nat.le_refl _) _).trans hb1; have hz1 : w.heap.size + 1 ≤ w1.heap.size := (by have := hb1.size; simp at this; omega)) | (refine wp_app_TicketS rfl (.tmp 25) (.tmp 30) rfl (w1.alloc (.cells #[.int .i64 z, .int .i64 kind, .int .i64 day, .int .i64 0, .int .i64 0] 25)) w.heap.size (.slice A1 rows.length c1) rows rfl (ho1.below ((Below.refl _ _).alloc (Nat.le_refl _) _)) (some ⟨w1.heap.size, 0, none⟩) 1 1 [[z, kind, day, 0, 0]] rfl (RdR.one_Ticket _ _ _ _ _ w1) (by have := hl.out; omega) (by simp; omega) ?_; intro A2 c2 w2 ho2 hb2; have hB2 : Below w.heap.size w w2 := (hB1.alloc (by omega) _).trans hb2; have hz2 : w.heap.size ≤ w2.heap.size := hB2.size)) | (go_at_call 69; (with_reducible refine (CG.out A c _ (h.below hB2)).mono ?_); rintro e w' ⟨rfl, hb⟩; have hB : Below w.heap.size w w' := Below.thenn (by repeat (first | exact Below.refl _ _ | assumption | apply Below.drew | apply below_drewN | (refine Below.alloc ?_ (by first | omega | (simp; done) | (simp; omega)) _) | (refine Below.setCell ?_ (by first | omega | (simp; done) | (simp; omega)) _))) hb (by first | omega | (simp; done) | (simp; omega)); have hz : w.heap.size ≤ w'.heap.size := hB.size; (try (have hz1 : w.heap.size + 1 ≤ w'.heap.size := (by have h := hb.size; (try simp at h); omega))); obtain ⟨hc, hf⟩ := bcell hb; have ho3 := ho2.below hb; have hr3 := RdR.cast_ (m := n + 1) ho3.rdR hln; clear hb) | (go_at_call 69; (with_reducible refine (CG2.out A2 _ c2 _ hr3 (by have := hl.out; omega)).mono ?_); rintro e w' ⟨rfl, hb⟩; have hB : Below w.heap.size w w' := Below.thenn (by repeat (first | exact Below.refl _ _ | assumption | apply Below.drew | apply below_drewN | (refine Below.alloc ?_ (by first | omega | (simp; done) | (simp; omega)) _) | (refine Below.setCell ?_ (by first | omega | (simp; done) | (simp; omega)) _))) hb (by first | omega | (simp; done) | (simp; omega)); have hz : w.heap.size ≤ w'.heap.size := hB.size; (try (have hz1 : w.heap.size + 1 ≤ w'.heap.size := (by have h := hb.size; (try simp at h); omega))); obtain ⟨hc, hf⟩ := bcell hb; skip; clear hb))
        go_ret3
        exact ⟨_, _, rfl, OwR.lit0 _ _ _ _ hz, (by repeat (first | exact Below.refl _ _ | assumption | apply Below.drew | apply below_drewN | (refine Below.alloc ?_ (by first | omega | (simp; done) | (simp; omega)) _) | (refine Below.setCell ?_ (by first | omega | (simp; done) | (simp; omega)) _)))⟩
      · obtain rfl : V = rows ++ [[z, kind, day, 0, 0]] := by rw [← HV.out]; simp [sellV, sellOk, hsl, hg, hg2]
        obtain rfl : z = Zr := by rw [← HZr.out]; simp [sellZ, sellOk, hsl, hg, hg2]; exact hzz
        obtain rfl : O = true := by rw [← HO.out]; simp [sellOk, hsl, hg, hg2]
        clear HV HZr HO
        have CG2 := Lib.hid (fun (A : Option Addr) (m c : Nat) w' (h' : RdR w' 5 A m (rows ++ [[z, kind, day, 0, 0]])) (hm' : m ≤ 1048577) => hg2 ▸ spec_l11Good A m c (rows ++ [[z, kind, day, 0, 0]]) w' h' hm')
        clear hg hg2 hzz hsl
        go_wp2_with (first | (at_builtin; first | (refine wp_app_TicketS rfl (.tmp 23) (.tmp 24) rfl (w.alloc (.cells #[] 25)) w.heap.size (.slice (some ⟨w.heap.size, 0, none⟩) 0 0) [] rfl (OwR.lit0 w w.heap.size _ _ (Nat.le_refl _)) A n c rows rfl (h.below ((Below.refl _ _).alloc (Nat.le_refl _) _)) (by simp; omega) (by simp) ?_; intro A1 c1 w1 ho1 hb1; rw [List.nil_append] at ho1; have hB1 : Below w.heap.size w w1 := ((Below.refl _ _).alloc (Nat.le_refl _) _).trans hb1; have hz1 : w.heap.size + 1 ≤ w1.heap.size := (by have := hb1.size; simp at this; omega)) | (refine wp_app_TicketS rfl (.tmp 25) (.tmp 30) rfl (w1.alloc (.cells #[.int .i64 z, .int .i64 kind, .int .i64 day, .int .i64 0, .int .i64 0] 25)) w.heap.size (.slice A1 rows.length c1) rows rfl (ho1.below ((Below.refl _ _).alloc (Nat.le_refl _) _)) (some ⟨w1.heap.size, 0, none⟩) 1 1 [[z, kind, day, 0, 0]] rfl (RdR.one_Ticket _ _ _ _ _ w1) (by have := hl.out; omega) (by simp; omega) ?_; intro A2 c2 w2 ho2 hb2; have hB2 : Below w.heap.size w w2 := (hB1.alloc (by omega) _).trans hb2; have hz2 : w.heap.size ≤ w2.heap.size := hB2.size)) | (go_at_call 69; (with_reducible refine (CG.out A c _ (h.below hB2)).mono ?_); rintro e w' ⟨rfl, hb⟩; have hB : Below w.heap.size w w' := Below.thenn (by repeat (first | exact Below.refl _ _ | assumption | apply Below.drew | apply below_drewN | (refine Below.alloc ?_ (by first | omega | (simp; done) | (simp; omega)) _) | (refine Below.setCell ?_ (by first | omega | (simp; done) | (simp; omega)) _))) hb (by first | omega | (simp; done) | (simp; omega)); have hz : w.heap.size ≤ w'.heap.size := hB.size; (try (have hz1 : w.heap.size + 1 ≤ w'.heap.size := (by have h := hb.size; (try simp at h); omega))); obtain ⟨hc, hf⟩ := bcell hb; have ho3 := ho2.below hb; have hr3 := RdR.cast_ (m := n + 1) ho3.rdR hln; clear hb) | (go_at_call 69; (with_reducible refine (CG2.out A2 _ c2 _ hr3 (by have := hl.out; omega)).mono ?_); rintro e w' ⟨rfl, hb⟩; have hB : Below w.heap.size w w' := Below.thenn (by repeat (first | exact Below.refl _ _ | assumption | apply Below.drew | apply below_drewN | (refine Below.alloc ?_ (by first | omega | (simp; done) | (simp; omega)) _) | (refine Below.setCell ?_ (by first | omega | (simp; done) | (simp; omega)) _))) hb (by first | omega | (simp; done) | (simp; omega)); have hz : w.heap.size ≤ w'.heap.size := hB.size; (try (have hz1 : w.heap.size + 1 ≤ w'.heap.size := (by have h := hb.size; (try simp at h); omega))); obtain ⟨hc, hf⟩ := bcell hb; have ho4 := ho3.below hb; clear hb))
        go_ret3
        exact ⟨A2, c2, ret_sib hln.symm, ho4, (by repeat (first | exact Below.refl _ _ | assumption | apply Below.drew | apply below_drewN | (refine Below.alloc ?_ (by first | omega | (simp; done) | (simp; omega)) _) | (refine Below.setCell ?_ (by first | omega | (simp; done) | (simp; omega)) _)))⟩
end Go.Proofs.Ytobcgcdjoogfnaa
