/- The law FnSpans: its walk. -/
import Derived.Test.YtjfmicemnoglkaaChoE
import Derived.Test.YtjfmicemnoglkaaSupI
import Derived.Test.YtjfmicemnoglkaaKsum
import Derived.Test.YtjfmicemnoglkaaKlaw
import Derived.Test.YtjfmicemnoglkaaKhas
import Derived.Deep.CutRange
import Derived.Deep.CutBlock
namespace Go.Proofs.Ytjfmicemnoglkaa
open Go.RowKit
set_option linter.unusedVariables false
set_option linter.unusedSimpArgs false

theorem sLV_len (rows : List (List Int)) : (sLV rows).length ≤ rows.length := by
  unfold sLV
  split
  · rw [spL_len]; omega
  · simp
theorem stV_len (rows : List (List Int)) : (stV rows).length ≤ rows.length := by
  unfold stV
  split
  · exact stL_len rows _
  · simp
/-- What the law asks of a valid line. -/
theorem spans_law {rows : List (List Int)} (hk : lineOk rows = true) : (sLV rows).sum = endN rows ∧ (0 : Int) ∈ stV rows ∧ ((rows.length : Int) - 1) ∈ stV rows ∧ ssV rows ≤ ((sLV rows).length : Int) - 1 ∧
    (∀ z ∈ sLV rows, 0 ≤ z ∧ z ≤ 1000000) ∧ (2 ≤ rows.length ∧ rows.length ≤ 8) ∧ ((sLV rows).length : Int) ≤ 8 := by
  have L := lineOk_line hk
  have hlo := L.lo
  have hhi := L.hi
  rw [sl_yes hk, st_yes hk, ss_yes hk, spL_len]
  refine ⟨?_, stL_has (i := 0) (by omega) L.st0, ?_, ?_, ?_, ⟨hlo, hhi⟩, by omega⟩
  · rw [spL_sum, L.zero]
    unfold endN
    omega
  · have := stL_has (rows := rows) (i := rows.length - 1) (k := rows.length) (by omega) L.st1
    rwa [show ((rows.length - 1 : Nat) : Int) = (rows.length : Int) - 1 by omega] at this
  · have := stI_lt rows (rows.length - 1)
    omega
  · intro z hz
    obtain ⟨i, hi⟩ := List.getElem?_of_mem hz
    have hi2 : i < rows.length - 1 := by
      have := (List.getElem?_eq_some_iff.1 hi).1
      rwa [spL_len] at this
    rw [spL_at hi2] at hi
    injection hi with hi
    have a := L.at_ i (by omega)
    have b := L.at_ (i + 1) (by omega)
    have c := L.rise i (by omega)
    omega
/-- What the law asks of a span with a place. -/
theorem span_law {rows : List (List Int)} {place : Int} (hk : onOk rows place = true) : (spanN rows place + 1 < rows.length) ∧ atN rows (spanN rows place) ≤ place ∧ place ≤ atN rows (spanN rows place + 1) ∧ saV rows place = (spanN rows place : Int) := by
  obtain ⟨hl, h0, h1⟩ := onOk_iff.1 hk
  have S := (lineOk_line hl).span h0 h1
  exact ⟨S.lt, S.lo, S.hi, spa_yes hk⟩
set_option maxRecDepth 100000 in
set_option maxHeartbeats 8000000 in
theorem law_FnSpans (A : Option Addr) (n c : Nat) (zs : List Int) (W : World) (h : Came .u8 W A n c zs) :
    Calls Try.prog 4 #[.slice A n c] W (Ret W (.bool true)) := by
  by_cases hbig : 65536 < n
  · go_enter Try.func4, Try.ntmps4
    go_wp2_with (go_at_call 9; refine (laws_vBig _ _ _ _).mono ?_; rintro e w' ⟨rfl, rfl⟩)
    go_ret
    exact ⟨rfl, Below.refl _ _⟩
  have hS : Src.ok ⟨A, n, c, zs⟩ W := came_src h (by omega)
  have HS := Lib.hid hS
  have B0 := Lib.hid (Below.refl W.heap.size W)
  clear h hS
  go_enter Try.func4, Try.ntmps4
  go_wp2_with (go_at_call 9; refine (laws_vBig _ _ _ _).mono ?_; rintro e w' ⟨rfl, rfl⟩)
  go_wp2_with fail
  refine (draw_SpanLengths _ _ (HS.out.below B0.out)).mono ?_
  rintro e w1 ⟨A1, c1, rows, rfl, hl, ho, hb⟩
  have E1 := Lib.hid (Below.thenn B0.out hb B0.out.size)
  have R1 := Lib.hid ho.rdL
  clear hb B0 ho
  have K1 := Lib.hid (fun w' (h' : RdL w' A1 rows.length rows) => impl_SpanLengths A1 rows.length c1 rows w' h' (by omega))
  have K2 := Lib.hid (fun w' (h' : RdL w' A1 rows.length rows) => spec_SpanLengths A1 rows.length c1 rows w' h' (by omega))
  have K3 := Lib.hid (fun w' (h' : RdL w' A1 rows.length rows) => impl_StationsOf A1 rows.length c1 rows w' h' (by omega))
  have K4 := Lib.hid (fun w' (h' : RdL w' A1 rows.length rows) => spec_StationsOf A1 rows.length c1 rows w' h' (by omega))
  have K5 := Lib.hid (fun w' (h' : RdL w' A1 rows.length rows) => impl_SteepestSpan A1 rows.length c1 rows w' h' (by omega))
  have K6 := Lib.hid (fun w' (h' : RdL w' A1 rows.length rows) => spec_SteepestSpan A1 rows.length c1 rows w' h' (by omega))
  have hz1 := sLV_len rows
  have hz2 := stV_len rows
  have HLW := Lib.hid (fun (hk : lineOk rows = true) => spans_law hk)
  have HEN : Hid (endN rows = atN rows (rows.length - 1)) := Lib.hid rfl
  have HOK : Hid (∀ hk : lineOk rows = true, lineOk rows = true) := Lib.hid (fun h => h)
  generalize sLV rows = ls at *
  generalize stV rows = ss at *
  generalize ssV rows = sp at *
  generalize hok : lineOk rows = ok at *
  have HK := Lib.hid hok
  clear hok
  go_wp2_with fail
  (go_wp2_with fail; refine (K1.out w1 R1.out).mono ?_; rintro e w2 ⟨A2, c2, rfl, ho, hb⟩; have O2 := Lib.hid ho; have E2 := Lib.hid (Below.thenn E1.out hb E1.out.size); have Qw2 := Lib.hid hb; clear ho hb)
  have R2 := Lib.hid (R1.out.below Qw2.out)
  (go_wp2_with fail; refine (K2.out w2 R2.out).mono ?_; rintro e w3 ⟨A3, c3, rfl, ho, hb⟩; have O3 := Lib.hid ho; have E3 := Lib.hid (Below.thenn E2.out hb E2.out.size); have Qw3 := Lib.hid hb; clear ho hb)
  have R3 := Lib.hid (R2.out.below Qw3.out)
  have P3 := Lib.hid (O2.out.below Qw3.out)
  clear R1 R2 O2 E1 E2 Qw2 Qw3
  (go_wp2_with fail; refine (laws_vInts A2 A3 ls.length ls.length c2 c3 ls ls w3 P3.out.rd O3.out.rd (by omega) (by omega)).mono ?_; intro e w4 hq; obtain ⟨rfl, hb⟩ := hq.ret; have E4 := Lib.hid (Below.thenn E3.out hb E3.out.size); have Qw4 := Lib.hid hb; clear hb hq)
  have R4 := Lib.hid (R3.out.below Qw4.out)
  have P4 := Lib.hid (P3.out.below Qw4.out)
  clear R3 P3 O3 E3 Qw4
  (go_wp2_with fail; refine (K3.out w4 R4.out).mono ?_; rintro e w5 ⟨A5, c5, rfl, ho, hb⟩; have O5 := Lib.hid ho; have E5 := Lib.hid (Below.thenn E4.out hb E4.out.size); have Qw5 := Lib.hid hb; clear ho hb)
  have R5 := Lib.hid (R4.out.below Qw5.out)
  have P5 := Lib.hid (P4.out.below Qw5.out)
  (go_wp2_with fail; refine (K4.out w5 R5.out).mono ?_; rintro e w6 ⟨A6, c6, rfl, ho, hb⟩; have O6 := Lib.hid ho; have E6 := Lib.hid (Below.thenn E5.out hb E5.out.size); have Qw6 := Lib.hid hb; clear ho hb)
  have R6 := Lib.hid (R5.out.below Qw6.out)
  have P6 := Lib.hid (P5.out.below Qw6.out)
  have S6 := Lib.hid (O5.out.below Qw6.out)
  clear R4 R5 P4 P5 O5 E4 E5 Qw5 Qw6
  (go_wp2_with fail; refine (laws_vInts A5 A6 ss.length ss.length c5 c6 ss ss w6 S6.out.rd O6.out.rd (by omega) (by omega)).mono ?_; intro e w7 hq; obtain ⟨rfl, hb⟩ := hq.ret; have E7 := Lib.hid (Below.thenn E6.out hb E6.out.size); have Qw7 := Lib.hid hb; clear hb hq)
  have R7 := Lib.hid (R6.out.below Qw7.out)
  have P7 := Lib.hid (P6.out.below Qw7.out)
  have S7 := Lib.hid (S6.out.below Qw7.out)
  clear R6 P6 S6 O6 E6 Qw7
  go_wp2_with fail
  refine (K5.out w7 R7.out).mono ?_
  rintro e w8 ⟨rfl, hb⟩
  have E8 := Lib.hid (Below.thenn E7.out hb E7.out.size)
  have R8 := Lib.hid (R7.out.below hb)
  have P8 := Lib.hid (P7.out.below hb)
  have S8 := Lib.hid (S7.out.below hb)
  clear hb R7 P7 S7 E7
  go_wp2_with fail
  refine (K6.out w8 R8.out).mono ?_
  rintro e w9 ⟨rfl, hb⟩
  have E9 := Lib.hid (Below.thenn E8.out hb E8.out.size)
  have R9 := Lib.hid (R8.out.below hb)
  have P9 := Lib.hid (P8.out.below hb)
  have S9 := Lib.hid (S8.out.below hb)
  clear hb R8 P8 S8 E8 K1 K2 K3 K4 K5 K6
  go_upto_if 104 with fail
  go_cut [16, 17, 18, 19] from 105 to 246 (fun q16 q17 q18 q19 wx => Hid (Below W.heap.size W wx))
  case first =>
    as_aux_lemma =>
      rcases ok with _ | _
      · go_wp2_with fail
        go_meet
        exact E9
      · obtain ⟨f1, f2, f3, f4, f5, f6, f7⟩ := HLW.out rfl
        have L := lineOk_line HK.out
        have CQ := Lib.hid (fun (k : Nat) (hk : k < rows.length) w' (h' : RdL w' A1 rows.length rows) => by
          have := impl_ChordAt A1 rows.length c1 rows (atN rows k) w' h' (by omega)
          obtain ⟨g1, g2, g3⟩ := ch_at HK.out hk
          rw [g1, g2, g3] at this
          exact this)
        obtain ⟨b, off, hA, hbl, d0, _, _⟩ := R9.out.rowN (k := rows.length - 1) (by omega)
        rw [← HEN.out] at d0
        subst hA
        have CV := Lib.hid (fun w' (h' : Rd w' 1 A2 ls.length (IV ls)) => laws_vSum A2 ls.length c2 ls w' h' (by omega) f5)
        rw [f1] at CV
        obtain ⟨N1, hN1⟩ : ∃ N1 : Int, N1 = (rows.length : Int) - 1 := ⟨_, rfl⟩
        rw [← hN1] at f3
        have CH : Hid (∀ x : Int, x ∈ ss → ∀ w', Rd w' 1 A5 ss.length (IV ss) → Calls Try.prog 33 #[.slice A5 ss.length c5, .int .i64 x] w' (fun e w2 => e = .returned (.bool true) ∧ w' = w2)) := Lib.hid (fun x hx w' h' => by
          have := laws_vHas A5 ss.length c5 ss x w' h' (by omega)
          rwa [decide_eq_true hx] at this)
        have u1 : IntKind.i64.wrap ((rows.length : Int) - 1) = N1 := (IntWalk.i64_in _ (by omega)).trans hN1.symm
        have u2 : IntKind.i64.wrap ((ls.length : Int) - 1) = (ls.length : Int) - 1 := IntWalk.i64_in _ (by omega)
        have k1 : N1.toNat = rows.length - 1 := by omega
        have k2 : (0 : Int) ≤ N1 := by omega
        have k3 : N1 < (rows.length : Int) := by omega
        clear hN1
        have g1 : decide ((ls.length : Int) - 1 < sp) = false := decide_eq_false (by omega)
        clear f1 f5 HLW HEN HOK
        generalize endN rows = en at *
        have EX := Lib.hid E9.out
        generalize w9 = w at *
        have hB : Below w.heap.size w w := Below.refl _ _
        have RP := fun (nn : Ext w) => P9.out.rd.below nn.below
        have RS := fun (nn : Ext w) => S9.out.rd.below nn.below
        go_upto_region 17 with fail
        (refine wp_region_ext (by kernel_rfl) (by kernel_rfl) ?_; have hxe := ext_cells; (repeat (go_big_quiet_step (first | (go_at_call 32; exact ext_pure (CV.out _ (RP _))) | (go_at_call 33; refine ext_pure (CH.out _ ?_ _ (RS _)); first | exact f2 | exact f3)))); refine wpQuiet_nil ?_; intro w' hw'; obtain ⟨nx, hw''⟩ := hw'; have hbx := ext_out hw''; clear hw'' nx hxe; have hB : Below w.heap.size w w' := Below.thenn (by repeat (first | exact Below.refl _ _ | assumption | apply Below.drew | apply below_drewN | (refine Below.alloc ?_ (by first | omega | (simp; done) | (simp; omega)) _) | (refine Below.setCell ?_ (by first | omega | (simp; done) | (simp; omega)) _))) hbx (by first | omega | (simp; done) | (simp; omega)); have hz : w.heap.size ≤ w'.heap.size := hB.size; obtain ⟨hc, hf⟩ := bcell hbx; clear hbx)
        have RL := Lib.hid (R9.out.below hB)
        have BL := Lib.hid (Below.thenn EX.out hB EX.out.size)
        clear hc hf hz hB RP RS CV CH f2 f3 P9 S9 d0 hbl R9 E9 EX
        go_wp2_with fail
        go_loopg [16] rows.length (fun gg i wr => ∃ k : Nat, k ≤ rows.length ∧ rows.length ≤ k + gg ∧ i = .int .i64 k ∧ Hid (Below W.heap.size W wr) ∧ Hid (RdL wr (some ⟨b, off, none⟩) rows.length rows))
        case atStart => exact ⟨0, by omega, by omega, rfl, BL, RL⟩
        case round =>
          obtain ⟨k, hk1, hk2, rfl, HB, HR⟩ := hrel
          by_cases hlt : k < rows.length
          · obtain ⟨b', off', hA', hb', d0, d1, _⟩ := HR.out.rowN (k := k) hlt
            injection hA' with hA'
            injection hA' with h1 h2
            subst h1 h2
            have CK := Lib.hid (CQ.out k hlt wr HR.out)
            generalize atN rows k = x0 at *
            generalize htN rows k = x1 at *
            go_wp2_with fail
            refine CK.out.mono ?_
            rintro e w5 ⟨rfl, hb⟩
            have H5 := Lib.hid (Below.thenn HB.out hb HB.out.size)
            have R5 := Lib.hid (HR.out.below hb)
            have d2 := (hb.cell (p := ⟨b, off + k * 3 + 1, none⟩) hb').trans d1
            clear hb d0 d1
            go_wp2_with fail
            go_roundg (rows.length - (k + 1))
            case measure => omega
            case rel => exact ⟨k + 1, by omega, by omega, by go_num, H5, R5⟩
          · obtain hkn : k = rows.length := by omega
            have h3 : ¬ (k : Int) < (rows.length : Int) := by omega
            go_wp2_with fail
            go_meet
            exact HB
  case rest =>
    as_aux_lemma =>
      have C0 : Hid (Below W.heap.size W wc) := hcut
      clear hcut R9 P9 S9 E9 HLW HEN HOK HK
      go_wp2_with fail
      refine (draw_ChordAt _ _ (HS.out.below C0.out)).mono ?_
      rintro e w1 ⟨A2, c2, rows2, place, rfl, hl2, ho, hb⟩
      have E1 := Lib.hid (Below.thenn C0.out hb C0.out.size)
      have R1 := Lib.hid ho.rdL
      clear hb C0 ho
      go_wp2_with fail
      refine (impl_ChordAt _ _ _ rows2 place w1 R1.out (by omega)).mono ?_
      rintro e w2 ⟨rfl, hb⟩
      have E2 := Lib.hid (Below.thenn E1.out hb E1.out.size)
      have R2 := Lib.hid (R1.out.below hb)
      clear hb
      go_wp2_with fail
      refine (spec_ChordAt _ _ _ rows2 place w2 R2.out (by omega)).mono ?_
      rintro e w3 ⟨rfl, hb⟩
      have E3 := Lib.hid (Below.thenn E2.out hb E2.out.size)
      clear hb E1 E2 R1 R2
      generalize cqN rows2 place = qa at *
      generalize cqD rows2 place = qb at *
      generalize onOk rows2 place = qc at *
      go_wp2_with fail
      refine (draw_SpanAt _ _ (HS.out.below E3.out)).mono ?_
      rintro e w1 ⟨A3, c3, rows3, pl3, rfl, hl3, ho, hb⟩
      have E1 := Lib.hid (Below.thenn E3.out hb E3.out.size)
      have R1 := Lib.hid ho.rdL
      clear hb E3 ho
      go_wp2_with fail
      refine (impl_SpanAt _ _ _ rows3 pl3 w1 R1.out (by omega)).mono ?_
      rintro e w2 ⟨rfl, hb⟩
      have E2 := Lib.hid (Below.thenn E1.out hb E1.out.size)
      have R2 := Lib.hid (R1.out.below hb)
      clear hb
      go_wp2_with fail
      refine (spec_SpanAt _ _ _ rows3 pl3 w2 R2.out (by omega)).mono ?_
      rintro e w3 ⟨rfl, hb⟩
      have E3 := Lib.hid (Below.thenn E2.out hb E2.out.size)
      have R3 := Lib.hid (R2.out.below hb)
      clear hb E1 E2 R1 R2
      rcases hon : onOk rows3 pl3 with _ | _
      · generalize saV rows3 pl3 = sv at *
        go_wp2_with fail
        go_ret
        exact ⟨ret_bool (by simp), E3.out⟩
      · obtain ⟨s1, s2, s3, s4⟩ := span_law hon
        rw [s4]
        obtain ⟨b, off, hA, hb1, d0, _, _⟩ := R3.out.rowN (k := spanN rows3 pl3) (by omega)
        obtain ⟨b', off', hA', _, d1, _, _⟩ := R3.out.rowN (k := spanN rows3 pl3 + 1) (by omega)
        subst hA
        injection hA' with hA'
        injection hA' with h1 h2
        subst h1 h2
        clear s4 hon
        generalize atN rows3 (spanN rows3 pl3) = x0 at *
        generalize atN rows3 (spanN rows3 pl3 + 1) = x1 at *
        generalize spanN rows3 pl3 = k at *
        have u1 : IntKind.i64.wrap ((k : Int) + 1) = (k : Int) + 1 := IntWalk.i64_in _ (by omega)
        have k1 : ((k : Int) + 1).toNat = k + 1 := by omega
        have k2 : (0 : Int) ≤ (k : Int) + 1 := by omega
        have k3 : (k : Int) + 1 < (rows3.length : Int) := by omega
        have k4 : (k : Int) < (rows3.length : Int) := by omega
        have g2 : decide (x0 ≤ pl3) = true := decide_eq_true s2
        have g3 : decide (pl3 ≤ x1) = true := decide_eq_true s3
        go_wp2_with fail
        go_ret
        exact ⟨ret_bool (by simp [s2, s3]), E3.out⟩
end Go.Proofs.Ytjfmicemnoglkaa
