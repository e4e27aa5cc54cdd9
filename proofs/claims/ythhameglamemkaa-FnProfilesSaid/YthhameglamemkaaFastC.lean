/- The fastest profile under limits: the reference's walk. -/
import Derived.Test.YthhameglamemkaaFastB
namespace Go.Proofs.Ythhameglamemkaa
open Go.RowKit
set_option linter.unusedVariables false
set_option linter.unusedSimpArgs false

set_option maxHeartbeats 4000000 in
theorem spec_Fastest_in (A : Option Addr) (n c : Nat) (xs : List Int) (f a : Int) (w : World) (h : Rd w 1 A n (IV xs)) (hp : prof xs = true) (hf : inr f 0 100 = true) (ha : inr a 1 20 = true) :
    Calls Try.prog 34 #[.slice A n c, .int .i64 f, .int .i64 a] w (RetSB w (fastR xs f a) (fastOk xs f a)) := by
  have hl := Lib.hid h.len
  have hpl := prof_len hp
  obtain ⟨x0, r0, rfl⟩ : ∃ x r, xs = x :: r := by
    match xs, hpl with
    | x :: r, _ => exact ⟨x, r, rfl⟩
  obtain ⟨y0, s0, hb⟩ := bwd_ne a x0 r0
  have hfb := inr_bd hf
  have hab := inr_bd ha
  have hyx : y0 ≤ x0 := by have := bwd_le a (x0 :: r0); rw [hb] at this; exact this.1
  have eO := fastOk_iff (f := f) hb
  rw [hp, ha] at eO
  simp only [Bool.true_and, show decide (0 ≤ f) = true by simpa using hfb.1] at eO
  have HO := Lib.hid eO
  have HBB := Lib.hid hb
  have HYX := Lib.hid hyx
  clear eO hb hyx
  have HM := Lib.hid (prof_mem hp)
  rw [h.len] at hpl
  have hm : n ≤ 9223372036854775807 := by omega
  obtain ⟨U, hUU⟩ : ∃ U, U = x0 :: r0 := ⟨_, rfl⟩
  rw [← hUU] at h hl hp HM HBB HO ⊢
  have HU := Lib.hid hUU
  clear hUU
  obtain ⟨OK, hOK⟩ : ∃ OK, OK = fastOk U f a := ⟨_, rfl⟩
  obtain ⟨R, hR⟩ : ∃ R, R = fastR U f a := ⟨_, rfl⟩
  rw [← hOK, ← hR]
  have HOK := Lib.hid hOK
  have HR := Lib.hid hR
  clear hOK hR
  go_enter Try.func34, Try.ntmps34
  go_wp2_with (first | (go_at_call 46; refine (spec_l9Good _ _ _ _ _ h hm).mono ?_; rintro e w' ⟨rfl, rfl⟩) | (go_at_call 54; refine (spec_l9Speed _ _).mono ?_; rintro e w' ⟨rfl, rfl⟩) | (go_at_call 50; refine (spec_l9Rate _ _).mono ?_; rintro e w' ⟨rfl, rfl⟩))
  refine (spec_l1Own _ _ _ U _ h (by omega)).mono ?_
  rintro e w1 ⟨A1, c1, rfl, ho1, hb1⟩
  rw [hl.out] at ho1 ⊢
  have HB1 := Lib.hid hb1
  have HW := Lib.hid ho1
  clear hb1 ho1
  go_wp2_with fail
  go_loopg [9] n (fun gg i wr => ∃ j : Nat, j ≤ gg ∧ j + 1 ≤ n ∧ i = .int .i64 ((j : Int) - 1) ∧ Hid (Ow wr w.heap.size (.slice A1 n c1) (U.take j ++ bwd a (U.drop j)) ∧ (∀ z ∈ bwd a (U.drop j), 0 ≤ z ∧ z ≤ 100) ∧ Below w.heap.size w wr))
  case atStart =>
    have hU1 : ∃ y, U.drop (n - 1) = [y] := by
      have h5 := hl.out
      have : (U.drop (n - 1)).length = 1 := by rw [List.length_drop]; omega
      match U.drop (n - 1), this with
      | [y], _ => exact ⟨y, rfl⟩
    obtain ⟨y, hy⟩ := hU1
    have e5 : U.take (n - 1) ++ bwd a (U.drop (n - 1)) = U := by
      rw [hy]
      have := List.take_append_drop (n - 1) U
      rw [hy] at this
      exact this
    refine ⟨n - 1, by omega, by omega, by go_num, by rw [e5]; exact HW.out, ?_, HB1.out⟩
    rw [hy]
    intro z hz
    refine HM.out z ?_
    have hz' : z ∈ U.drop (n - 1) := by rw [hy]; exact hz
    exact List.mem_of_mem_drop hz'
  case round =>
    obtain ⟨j, hj1, hj2, rfl, hh⟩ := hrel
    rcases j with _ | j
    · have e0 : ((0 : Nat) : Int) - 1 = -1 := by omega
      rw [e0]
      obtain ⟨hown, hmem, hB⟩ := hh.out
      simp only [List.take_zero, List.nil_append, List.drop_zero] at hown hmem
      obtain ⟨g, y, rfl, hg, hy, hcy, hfy, hst⟩ := hown.store (k := 0) (by omega)
      have ey : y = y0 := by rw [HBB.out] at hy; simpa using hy.symm
      subst ey
      have HME := Lib.hid hmem
      have HST := Lib.hid (hst f)
      have HOWN := Lib.hid hown
      clear hy hst hown hmem hh
      by_cases hfy' : y < f
      · have e1 : OK = false := by rw [HOK.out, HO.out]; simp; omega
        have e2 : R = [] := by rw [HR.out, fastR, ← HOK.out, e1]; rfl
        have E1 := Lib.hid e1
        have E2 := Lib.hid e2
        clear e1 e2
        go_wp2_with fail
        go_ret2
        rw [E1.out, E2.out]
        exact RetSB.lit' hB
      · have hfy2 : f ≤ y := by omega
        have e1 : OK = true := by rw [HOK.out, HO.out]; simp; omega
        have hx0 : f ≤ x0 := by have := HYX.out; omega
        have hsame := fast_same (a := a) (f := f) (x := x0) (r := r0) (y := y) (s := s0) (by omega) hx0 (by have := HBB.out; rw [HU.out] at this; exact this) hfy2
        rw [← HU.out] at hsame
        have e2 : R = fS U f a := by rw [HR.out, fastR, ← HOK.out, e1]; rfl
        have E1 := Lib.hid e1
        have E2 := Lib.hid e2
        have HKS := Lib.hid hsame.2.2
        clear hsame e1 e2 hfy2
        go_wp2_with fail
        obtain ⟨O, hOO⟩ : ∃ O, O = setHd f (bwd a U) := ⟨_, rfl⟩
        have hO : Ow (wr.setCell ⟨g, 0, none⟩ (.int .i64 f)) w.heap.size (.slice (some ⟨g, 0, none⟩) n c1) O := by
          have := HST.out.1
          rw [setHd_set (by rw [bwd_len, hl.out]; omega), ← hOO] at this
          exact this
        have hBO : Below w.heap.size w (wr.setCell ⟨g, 0, none⟩ (.int .i64 f)) := hB.setCell (p := ⟨g, 0, none⟩) hg _
        have hbd : ∀ z ∈ O, 0 ≤ z ∧ z ≤ 100 := by
          intro z hz
          rw [hOO, HBB.out] at hz
          simp only [setHd, List.mem_cons] at hz
          rcases hz with rfl | hz
          · omega
          · exact HME.out z (by rw [HBB.out]; simp [hz])
        have hOl : O.length = n := by rw [hOO, setHd_len, bwd_len, hl.out]
        have hO0 : O[0]? = some f := by rw [hOO, HBB.out]; rfl
        have HFS : Hid (fwd a O = fS U f a) := by rw [hOO]; exact rfl
        have HOL := Lib.hid hOl
        have HO0 := Lib.hid hO0
        have HBD := Lib.hid hbd
        have HO1 := Lib.hid hO
        have HBO := Lib.hid hBO
        clear hOO hOl hO0 hbd hO hBO hcy hfy HST
        go_loopg [10] n (fun gg i wr => ∃ k : Nat, 1 ≤ k ∧ k ≤ n ∧ n ≤ k + gg ∧ i = .int .i64 k ∧ Hid (∃ (p : Int) (ts : List Int), ts[k - 1]? = some p ∧ ts.length = k ∧ ts ++ fwdF a p (O.drop k) = fwd a O ∧ (∀ z ∈ ts, 0 ≤ z ∧ z ≤ 100) ∧ Ow wr w.heap.size (.slice (some ⟨g, 0, none⟩) n c1) (ts ++ O.drop k) ∧ Below w.heap.size w wr))
        case atStart =>
          have e := drop_at HO0.out
          simp at e
          refine ⟨1, by omega, by omega, by omega, rfl, f, [f], rfl, rfl, ?_, ?_, ?_, HBO.out⟩
          · rw [e]; simp [fwd]
          · intro z hz
            have : z = f := by simpa using hz
            omega
          · have := HO1.out
            rw [e] at this
            simpa using this
        case round =>
          obtain ⟨k, hk0, hk1, hk2, rfl, hh⟩ := hrel
          by_cases hlt : k < n
          · obtain ⟨p, ts, hp1, hts, hF, hmem, hown, hB⟩ := hh.out
            obtain ⟨g', x, eg, hgg, hx, hcx, hfx, hst⟩ := hown.store (k := k) hlt
            injection eg with eg
            injection eg with eg1
            subst eg1
            obtain ⟨b', off', p', e, hp', hcp⟩ := hown.rd.at1 (k := k - 1) (by omega)
            injection e with e
            injection e with e1 e2
            subst e1 e2
            rw [Nat.zero_add] at hcp
            rw [at_left hts (by omega), hp1] at hp'
            obtain rfl : p = p' := by injection hp'
            have hxO := at_mid hts hx
            have hbx := HBD.out x (mem_at hxO)
            have hbp := hmem p (mem_at hp1)
            have b1 := hbx.1
            have b2 := hbx.2
            have b3 := hbp.1
            have b4 := hbp.2
            have HX := Lib.hid hxO
            have HST := Lib.hid hst
            have HF := Lib.hid hF
            have HTS := Lib.hid hts
            have HME := Lib.hid hmem
            have w1' : IntKind.i64.wrap (↑k - 1) = ↑k - 1 := IntWalk.i64_in _ (by omega)
            have w2' : (0 : Int) ≤ ↑k - 1 := by omega
            have w3 : ((k : Int) - 1).toNat = k - 1 := by omega
            have w4 : IntKind.i64.wrap (p + a) = p + a := IntWalk.i64_in _ (by omega)
            have w6 : (k : Int) - 1 < n := by omega
            clear hx hxO hst hbx hbp hp1 hp' hF hts hown hh hmem
            go_wp2_with fail
            go_region_with (go_at_call 62; refine (spec_l1Least _ _ _).mono ?_; rintro e w' ⟨rfl, rfl⟩)
            all_goals go_wp2_with fail
            all_goals go_roundg (n - (k + 1))
            all_goals first
              | omega
              | (refine ⟨k + 1, by omega, by omega, by omega, by go_num, min x (p + a), ts ++ [min x (p + a)], last_at HTS.out, by simp [HTS.out], fwd_step HX.out HF.out, ?_, ?_, (hB.setCell (p := ⟨g, k, none⟩) hg _).drew⟩
                 · intro z hz
                   simp only [List.mem_append, List.mem_singleton] at hz
                   rcases hz with hz | rfl
                   · exact HME.out z hz
                   · omega
                 · have h5 := (HST.out (min x (p + a))).1
                   rw [set_mid HTS.out HX.out] at h5
                   exact h5)
          · obtain ⟨p, ts, hp1, hts, hF, hmem, hown, hB⟩ := hh.out
            have e0 : O.drop k = [] := drop_end (by rw [HOL.out]; omega)
            rw [e0, List.append_nil] at hown
            have e1 : ts = fS U f a := by rw [← HFS.out, ← hF, e0]; simp [fwdF]
            rw [e1] at hown hmem
            have HOW := Lib.hid hown
            have HME := Lib.hid hmem
            have hle : (fS U f a).length = n := by rw [fS_len, hl.out]
            have HLE := Lib.hid hle
            clear hp1 hts hF hmem hown hh e0 e1 hle
            have hks := HKS.out
            go_wp2_with fail
            refine (spec_l9Keeps _ _ _ (fS U f a) a _ HOW.out.rd (by omega) (by omega) (fun z hz => by have := HME.out z hz; omega) (by omega) (by omega)).mono ?_
            rintro e w' ⟨rfl, nq, rfl⟩
            go_wp2_with fail
            go_ret2
            rw [E1.out, E2.out]
            exact ⟨_, c1, ret_ssb HLE.out.symm, by rw [HLE.out]; exact HOW.out, below_drewN hB _⟩
    · have e0 : ((j + 1 : Nat) : Int) - 1 = (j : Int) := by omega
      rw [e0]
      clear e0
      obtain ⟨y, s, hys⟩ : ∃ y s, bwd a (U.drop (j + 1)) = y :: s := by
        have : (bwd a (U.drop (j + 1))).length = n - (j + 1) := by rw [bwd_len, List.length_drop, hl.out]
        rcases hb : bwd a (U.drop (j + 1)) with _ | ⟨y, s⟩
        · rw [hb] at this; simp at this; omega
        · exact ⟨y, s, rfl⟩
      obtain ⟨hown, hmem, hB⟩ := hh.out
      rw [hys] at hown hmem
      obtain ⟨g, x, rfl, hg, hx, hcx, hfx, hst⟩ := hown.store (k := j) (by omega)
      obtain ⟨b', off', y', e, hy', hcy⟩ := hown.rd.at1 (k := j + 1) (by omega)
      injection e with e
      injection e with e1 e2
      subst e1 e2
      rw [Nat.zero_add] at hcy
      obtain rfl := at_back (by rw [hl.out]; omega) hy'
      have hxU := at_back0 (by rw [hl.out]; omega) hx
      have hbx := HM.out x (mem_at hxU)
      have hby := hmem y' (by simp)
      have b1 := hbx.1
      have b2 := hbx.2
      have b3 := hby.1
      have b4 := hby.2
      have HX := Lib.hid hxU
      have HST := Lib.hid hst
      have HYS := Lib.hid hys
      have HME := Lib.hid hmem
      have w1' : IntKind.i64.wrap (↑j + 1) = ↑j + 1 := IntWalk.i64_in _ (by omega)
      have w2' : (0 : Int) ≤ ↑j + 1 := by omega
      have w3 : ((j : Int) + 1).toNat = j + 1 := by omega
      have w4 : IntKind.i64.wrap (y' + a) = y' + a := IntWalk.i64_in _ (by omega)
      have w6 : (j : Int) + 1 < n := by omega
      clear hx hxU hst hbx hby hy' hys hown hh hmem
      go_wp2_with fail
      go_region_with (go_at_call 62; refine (spec_l1Least _ _ _).mono ?_; rintro e w' ⟨rfl, rfl⟩)
      all_goals go_wp2_with fail
      all_goals go_roundg j
      all_goals first
        | omega
        | (have hbs := bwd_step HX.out HYS.out
           refine ⟨j, by omega, by omega, by go_num, ?_, ?_, (hB.setCell (p := ⟨g, j, none⟩) hg _).drew⟩
           · have h5 := (HST.out (min x (y' + a))).1
             rw [set_back HX.out] at h5
             rw [hbs]; exact h5
           · rw [hbs]
             intro z hz
             rw [List.mem_cons] at hz
             rcases hz with rfl | hz
             · omega
             · exact HME.out z hz)

theorem fastOk_le {xs : List Int} {f a : Int} (hp : prof xs = true) (h : fastOk xs f a = true) : inr f 0 100 = true ∧ inr a 1 20 = true := by
  have hpl := prof_len hp
  match xs, hpl with
  | x :: r, _ =>
    obtain ⟨y, s, hb⟩ := bwd_ne a x r
    have hyx : y ≤ x := by have := bwd_le a (x :: r); rw [hb] at this; exact this.1
    have hx := prof_mem hp x (by simp)
    rw [fastOk_iff hb] at h
    simp only [Bool.and_eq_true, decide_eq_true_eq] at h
    exact ⟨by simp [inr]; omega, h.2.1⟩
theorem spec_FastestUnder (A : Option Addr) (n c : Nat) (xs : List Int) (f a : Int) (w : World) (h : Rd w 1 A n (IV xs)) (hm : n ≤ 9223372036854775807) :
    Calls Try.prog 34 #[.slice A n c, .int .i64 f, .int .i64 a] w (RetSB w (fastR xs f a) (fastOk xs f a)) := by
  rcases hp : prof xs with _ | _
  · have eO : fastOk xs f a = false := by simp [fastOk, hp]
    have eR : fastR xs f a = [] := by simp [fastR, eO]
    rw [eO, eR]
    clear eO eR
    go_enter Try.func34, Try.ntmps34
    go_wp2_with (go_at_call 46; refine (spec_l9Good _ _ _ _ _ h hm).mono ?_; rintro e w' ⟨rfl, rfl⟩)
    go_ret2
    exact RetSB.lit
  · rcases hf : inr f 0 100 with _ | _
    · have eO : fastOk xs f a = false := by
        rcases h1 : fastOk xs f a with _ | _
        · rfl
        · have := (fastOk_le hp h1).1; rw [hf] at this; exact this.symm
      have eR : fastR xs f a = [] := by simp [fastR, eO]
      rw [eO, eR]
      clear eO eR
      go_enter Try.func34, Try.ntmps34
      go_wp2_with (first | (go_at_call 46; refine (spec_l9Good _ _ _ _ _ h hm).mono ?_; rintro e w' ⟨rfl, rfl⟩) | (go_at_call 54; refine (spec_l9Speed _ _).mono ?_; rintro e w' ⟨rfl, rfl⟩) | (go_at_call 50; refine (spec_l9Rate _ _).mono ?_; rintro e w' ⟨rfl, rfl⟩))
      go_ret2
      exact RetSB.lit
    · rcases ha : inr a 1 20 with _ | _
      · have eO : fastOk xs f a = false := by
          rcases h1 : fastOk xs f a with _ | _
          · rfl
          · have := (fastOk_le hp h1).2; rw [ha] at this; exact this.symm
        have eR : fastR xs f a = [] := by simp [fastR, eO]
        rw [eO, eR]
        clear eO eR
        go_enter Try.func34, Try.ntmps34
        go_wp2_with (first | (go_at_call 46; refine (spec_l9Good _ _ _ _ _ h hm).mono ?_; rintro e w' ⟨rfl, rfl⟩) | (go_at_call 54; refine (spec_l9Speed _ _).mono ?_; rintro e w' ⟨rfl, rfl⟩) | (go_at_call 50; refine (spec_l9Rate _ _).mono ?_; rintro e w' ⟨rfl, rfl⟩))
        go_ret2
        exact RetSB.lit
      · exact spec_Fastest_in A n c xs f a w h hp hf ha
end Go.Proofs.Ythhameglamemkaa
