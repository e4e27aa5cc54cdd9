/- The law FnSplitJoin: its walk. -/
import Derived.Test.YtjfmicemnoglkaaDoorSDrx
import Derived.Test.YtjfmicemnoglkaaDoorSJs
import Derived.Test.YtjfmicemnoglkaaDoorSSp
namespace Go.Proofs.YtjfmicemnoglkaaDoor
open Go.RowKit
set_option linter.unusedVariables false
set_option linter.unusedSimpArgs false

/-- The program and the reference join alike. -/
theorem join_both (A : Option Addr) (n c : Nat) (xs : List ByteArray) (sep : ByteArray) (hz : sep.size ≤ 100) (hn : n ≤ 100) (hc : n ≤ c) (hs : ∀ y ∈ xs, y.size ≤ 5000) :
    ∃ (v : ByteArray) (ok : Bool), (∀ w, RdS w A n xs → Calls Tryd.prog 8 #[.slice A n c, .string sep] w (Ret w (.tuple #[.string v, .bool ok]))) ∧ (∀ w, RdS w A n xs → Calls Tryd.prog 9 #[.slice A n c, .string sep] w (Ret w (.tuple #[.string v, .bool ok]))) := by
  by_cases h : sep.size = 1
  · rw [one_byte h]
    exact ⟨_, _, fun w hR => impl_Join_one A n c xs _ w hR hn hc hs, fun w hR => spec_Join_one A n c xs _ w hR hn hs⟩
  · exact ⟨_, _, fun w _ => impl_Join_not A n c sep w h hz hn, fun w _ => spec_Join_not A n c sep w h hz hn⟩
set_option maxRecDepth 100000 in
set_option maxHeartbeats 4000000 in
theorem law_FnSplitJoin (A : Option Addr) (n c : Nat) (zs : List Int) (m : Int) (W : World) (h : Came .u8 W A n c zs) (hm : W.cell? ⟨0, 0, none⟩ = some (.int .i64 m)) :
    Calls Tryd.prog 3 #[.slice A n c] W (Ret W (.bool true)) := by
  by_cases hbig : 65536 < n
  · go_enter Tryd.func3, Tryd.ntmps3
    go_wp2_with (go_at_call 4; refine (laws_vBig _ _ _ _).mono ?_; rintro e w' ⟨rfl, rfl⟩)
    go_ret
    exact ⟨rfl, Below.refl _ _⟩
  have hS : Src.ok ⟨A, n, c, zs⟩ W := came_src h (by omega)
  have HS := Lib.hid hS
  have HM := Lib.hid hm
  have h0W : 0 < W.heap.size := World.block_lt_of_cell? W _ hm
  have B0 := Lib.hid (Below.refl W.heap.size W)
  clear h hS hm
  go_enter Tryd.func3, Tryd.ntmps3
  go_wp2_with (go_at_call 4; refine (laws_vBig _ _ _ _).mono ?_; rintro e w' ⟨rfl, rfl⟩)
  go_wp2_with fail
  refine (draw_SplitString _ _ (HS.out.below B0.out)).mono ?_
  rintro e w1 ⟨s, t, hs, ht, rfl, hb⟩
  have E1 := Lib.hid (Below.thenn B0.out hb B0.out.size)
  have M1 := Lib.hid ((E1.out.cell (p := ⟨0, 0, none⟩) h0W).trans HM.out)
  have h4 := anys_4000 s hs
  have hts := seps_size t ht
  have HGD := Lib.hid (split_good s hs t ht)
  clear hb B0 hs ht
  by_cases h1 : t.size = 1
  · obtain ⟨g1, g2, g3, g4⟩ := HGD.out h1
    obtain ⟨x, rfl⟩ : ∃ x, t = ⟨#[x]⟩ := ⟨_, one_byte h1⟩
    have g1 : jsOk x (Lib.splitB ⟨#[x]⟩ 0 (Lib.countB s ⟨#[x]⟩) s) = true := g1
    have g2 : jsT x (Lib.splitB ⟨#[x]⟩ 0 (Lib.countB s ⟨#[x]⟩) s) = s := g2
    clear HGD h1 hts
    go_wp2_with fail
    refine (impl_Split_one s x m w1 h4 M1.out).mono ?_
    rintro e w2 ⟨A2, n2, rfl, hR2, hb⟩
    have E2 := Lib.hid (Below.thenn E1.out hb E1.out.size)
    have R2 := Lib.hid hR2
    generalize Lib.splitB ⟨#[x]⟩ 0 (Lib.countB s ⟨#[x]⟩) s = ps at *
    have hn2 := hR2.len
    have G := Lib.hid (And.intro g1 (And.intro g2 g4))
    clear hb E1 M1 hR2 g1 g2 g4
    go_wp2_with fail
    refine (draw_JoinStrings _ _ (HS.out.below E2.out)).mono ?_
    rintro e w3 ⟨A3, n3, c3, xs, mk, hxs, hmk, rfl, hn3, ho, hb⟩
    have E3 := Lib.hid (Below.thenn E2.out hb E2.out.size)
    have R3 := Lib.hid (R2.out.below hb)
    obtain ⟨hl3, hc3⟩ := ho.len_
    have X3 : Hid (RdS w3 A3 n3 xs) := Lib.hid (hl3 ▸ ho.rd)
    have hmz := marks_size mk hmk
    obtain ⟨v, ok, J1, J2⟩ := join_both A3 n3 c3 xs mk hmz (by omega) hc3 (fun y hy => Nat.le_trans (hxs y hy) (by decide))
    have HJ1 := Lib.hid J1
    have HJ2 := Lib.hid J2
    clear hb E2 R2 ho hxs hmk J1 J2
    go_wp2_with fail
    refine (HJ1.out w3 X3.out).mono ?_
    rintro e w4 ⟨rfl, hb⟩
    have E4 := Lib.hid (Below.thenn E3.out hb E3.out.size)
    have R4 := Lib.hid (R3.out.below hb)
    have X4 := Lib.hid (X3.out.below hb)
    clear hb E3 R3 X3
    go_wp2_with fail
    refine (HJ2.out w4 X4.out).mono ?_
    rintro e w5 ⟨rfl, hb⟩
    have E5 := Lib.hid (Below.thenn E4.out hb E4.out.size)
    have R5 := Lib.hid (R4.out.below hb)
    clear hb E4 R4 X4 HJ1 HJ2
    go_wp2_with fail
    refine (draw_LessString _ _ (HS.out.below E5.out)).mono ?_
    rintro e w6 ⟨a, b, _, _, rfl, hb⟩
    have E6 := Lib.hid (Below.thenn E5.out hb E5.out.size)
    have R6 := Lib.hid (R5.out.below hb)
    clear hb E5 R5
    have L1 := fun w => impl_Less a b w
    have L2 := fun w => impl_Less b a w
    have L3 := fun w => spec_Less a b w
    have hanti := less_anti a.toList b.toList
    generalize Op.bytesLess a.toList b.toList = lt1 at *
    generalize Op.bytesLess b.toList a.toList = lt2 at *
    have HL1 := Lib.hid L1
    have HL2 := Lib.hid L2
    have HL3 := Lib.hid L3
    have HAN := Lib.hid hanti
    clear L1 L2 L3 hanti
    have CJ := Lib.hid (fun w (hR : RdS w A2 n2 ps) => impl_Join_one A2 n2 n2 ps x w hR (by omega) (Nat.le_refl _) G.out.2.2)
    rw [G.out.1, G.out.2.1] at CJ
    rcases lt1 with _ | _
    · go_wp2_with (first | (go_at_call 11; (with_reducible refine (HL1.out _).mono ?_); rintro e w' ⟨rfl, rfl⟩) | (go_at_call 12; (with_reducible refine (HL3.out _).mono ?_); rintro e w' ⟨rfl, rfl⟩))
      refine (CJ.out w6 R6.out).mono ?_
      rintro e w7 ⟨rfl, hb⟩
      have E7 := Lib.hid (Below.thenn E6.out hb E6.out.size)
      clear hb
      go_wp2_with fail
      go_ret
      exact ⟨ret_bool (by simp), E7.out⟩
    · have h2 := HAN.out rfl
      subst h2
      go_wp2_with (first | (go_at_call 11; (with_reducible refine (HL1.out _).mono ?_); rintro e w' ⟨rfl, rfl⟩) | (go_at_call 11; (with_reducible refine (HL2.out _).mono ?_); rintro e w' ⟨rfl, rfl⟩) | (go_at_call 12; (with_reducible refine (HL3.out _).mono ?_); rintro e w' ⟨rfl, rfl⟩))
      refine (CJ.out w6 R6.out).mono ?_
      rintro e w7 ⟨rfl, hb⟩
      have E7 := Lib.hid (Below.thenn E6.out hb E6.out.size)
      clear hb
      go_wp2_with fail
      go_ret
      exact ⟨ret_bool (by simp), E7.out⟩
  · have hn1 : ((t.size : Int) != 1) = true := by simp; omega
    clear HGD
    go_wp2_with fail
    refine (impl_Split_not s t w1 h1 hts h4).mono ?_
    rintro e w2 ⟨rfl, hb⟩
    have E2 := Lib.hid (Below.thenn E1.out hb E1.out.size)
    clear hb E1 M1
    go_wp2_with fail
    refine (draw_JoinStrings _ _ (HS.out.below E2.out)).mono ?_
    rintro e w3 ⟨A3, n3, c3, xs, mk, hxs, hmk, rfl, hn3, ho, hb⟩
    have E3 := Lib.hid (Below.thenn E2.out hb E2.out.size)
    obtain ⟨hl3, hc3⟩ := ho.len_
    have X3 : Hid (RdS w3 A3 n3 xs) := Lib.hid (hl3 ▸ ho.rd)
    have hmz := marks_size mk hmk
    obtain ⟨v, ok, J1, J2⟩ := join_both A3 n3 c3 xs mk hmz (by omega) hc3 (fun y hy => Nat.le_trans (hxs y hy) (by decide))
    have HJ1 := Lib.hid J1
    have HJ2 := Lib.hid J2
    clear hb E2 ho hxs hmk J1 J2
    go_wp2_with fail
    refine (HJ1.out w3 X3.out).mono ?_
    rintro e w4 ⟨rfl, hb⟩
    have E4 := Lib.hid (Below.thenn E3.out hb E3.out.size)
    have X4 := Lib.hid (X3.out.below hb)
    clear hb E3 X3
    go_wp2_with fail
    refine (HJ2.out w4 X4.out).mono ?_
    rintro e w5 ⟨rfl, hb⟩
    have E5 := Lib.hid (Below.thenn E4.out hb E4.out.size)
    clear hb E4 X4 HJ1 HJ2
    go_wp2_with fail
    refine (draw_LessString _ _ (HS.out.below E5.out)).mono ?_
    rintro e w6 ⟨a, b, _, _, rfl, hb⟩
    have E6 := Lib.hid (Below.thenn E5.out hb E5.out.size)
    clear hb E5
    have L1 := fun w => impl_Less a b w
    have L2 := fun w => impl_Less b a w
    have L3 := fun w => spec_Less a b w
    have hanti := less_anti a.toList b.toList
    generalize Op.bytesLess a.toList b.toList = lt1 at *
    generalize Op.bytesLess b.toList a.toList = lt2 at *
    have HL1 := Lib.hid L1
    have HL2 := Lib.hid L2
    have HL3 := Lib.hid L3
    have HAN := Lib.hid hanti
    clear L1 L2 L3 hanti
    rcases lt1 with _ | _
    · go_wp2_with (first | (go_at_call 11; (with_reducible refine (HL1.out _).mono ?_); rintro e w' ⟨rfl, rfl⟩) | (go_at_call 12; (with_reducible refine (HL3.out _).mono ?_); rintro e w' ⟨rfl, rfl⟩))
      go_ret
      exact ⟨ret_bool (by simp), E6.out⟩
    · have h2 := HAN.out rfl
      subst h2
      go_wp2_with (first | (go_at_call 11; (with_reducible refine (HL1.out _).mono ?_); rintro e w' ⟨rfl, rfl⟩) | (go_at_call 11; (with_reducible refine (HL2.out _).mono ?_); rintro e w' ⟨rfl, rfl⟩) | (go_at_call 12; (with_reducible refine (HL3.out _).mono ?_); rintro e w' ⟨rfl, rfl⟩))
      go_ret
      exact ⟨ret_bool (by simp), E6.out⟩
end Go.Proofs.YtjfmicemnoglkaaDoor
