/- The shortest profile, the way until a stop, the speed for a way. -/
import Derived.Test.YthhameglamemkaaSpeedB
namespace Go.Proofs.Ythhameglamemkaa
open Go.RowKit
set_option linter.unusedVariables false
set_option linter.unusedSimpArgs false

def stepTo (v to_ a : Int) : Int := if v < to_ then min (v + a) to_ else max (v - a) to_
def shF : Nat → Int → Int → Int → List Int
  | 0, _, _, _ => []
  | f + 1, v, to_, a => if v = to_ then [] else stepTo v to_ a :: shF f (stepTo v to_ a) to_ a
/-- The shortest profile, whatever its length. -/
def short (from_ to_ a : Int) : List Int := from_ :: shF 100 from_ to_ a
theorem shF_end (f : Nat) (v a : Int) : shF f v v a = [] := by cases f <;> simp [shF]
theorem shF_next {f : Nat} {v to_ a : Int} (h : v ≠ to_) : shF (f + 1) v to_ a = stepTo v to_ a :: shF f (stepTo v to_ a) to_ a := by simp [shF, h]
theorem shF_len (f : Nat) (v to_ a : Int) : (shF f v to_ a).length ≤ f := by
  induction f generalizing v with
  | zero => simp [shF]
  | succ f ih =>
    simp only [shF]
    split
    · simp
    · simp; exact ih _
theorem short_len (from_ to_ a : Int) : 1 ≤ (short from_ to_ a).length ∧ (short from_ to_ a).length ≤ 101 := by
  have := shF_len 100 from_ to_ a
  simp [short]
  omega

set_option maxHeartbeats 1000000 in
theorem spec_l9To (from_ to_ a : Int) (w : World) (hf0 : 0 ≤ from_) (hf1 : from_ ≤ 100) (ht0 : 0 ≤ to_) (ht1 : to_ ≤ 100) (ha0 : 1 ≤ a) (ha1 : a ≤ 20) :
    Calls Try.prog 55 #[.int .i64 from_, .int .i64 to_, .int .i64 a] w (RetS w (short from_ to_ a)) := by
  go_enter Try.func55, Try.ntmps55
  go_wp2
  go_loopg [7, 8] 100 (fun g o v wr => ∃ (zs : List Int) (vv : Int) (A : Option Addr) (c : Nat), 0 ≤ vv ∧ vv ≤ 100 ∧ vv - to_ ≤ g ∧ to_ - vv ≤ g ∧ zs.length + g ≤ 101 ∧ v = .int .i64 vv ∧ o = .slice A zs.length c ∧ Hid (Ow wr w.heap.size (.slice A zs.length c) zs ∧ Below w.heap.size w wr ∧ zs ++ shF g vv to_ a = short from_ to_ a))
  case atStart => exact ⟨[from_], from_, _, 1, hf0, hf1, by omega, by omega, by simp, rfl, rfl, Ow.lit w [from_] (by simp [maxLen]) (Nat.le_refl _), (Below.refl _ _).alloc (Nat.le_refl _) _, rfl⟩
  case round =>
    obtain ⟨zs, vv, A, c, h0, h1, h2, h3, h4, rfl, rfl, hh⟩ := hrel
    rcases Decidable.em (vv = to_) with rfl | hne
    · go_wp2_with fail
      go_ret
      have h5 := hh.out.2.2
      rw [shF_end, List.append_nil] at h5
      subst h5
      exact ⟨A, c, rfl, hh.out.1, hh.out.2.1⟩
    · obtain ⟨g, rfl⟩ : ∃ g, gk = g + 1 := ⟨gk - 1, by omega⟩
      have hb : (vv != to_) = true := by simpa using hne
      have HN := Lib.hid hne
      have hsz := hh.out.2.1.size
      clear hne
      by_cases hlt : vv < to_
      · go_wp2_with (first | (go_at_call 62; refine (spec_l1Least _ _ _).mono ?_; rintro e w' ⟨rfl, rfl⟩) | (at_builtin; refine wp_app_int rfl (.tmp 28) (.tmp 30) rfl wr w.heap.size (.slice A zs.length c) zs _ rfl hh.out.1 rfl (by omega) hsz ?_; intro A1 c1 w1 hown1 hb1))
        go_roundg g
        case measure => omega
        case rel =>
          refine ⟨zs ++ [min to_ (vv + a)], min to_ (vv + a), A1, c1, by omega, by omega, by omega, by omega, by simp; omega, rfl, by simp, hown1, hh.out.2.1.trans hb1, ?_⟩
          rw [← hh.out.2.2, shF_next HN.out]
          have e : stepTo vv to_ a = min to_ (vv + a) := by simp [stepTo, hlt]; omega
          rw [e]; simp
      · go_wp2_with (first | (go_at_call 69; refine (spec_l1Most _ _ _).mono ?_; rintro e w' ⟨rfl, rfl⟩) | (at_builtin; refine wp_app_int rfl (.tmp 28) (.tmp 30) rfl wr w.heap.size (.slice A zs.length c) zs _ rfl hh.out.1 rfl (by omega) hsz ?_; intro A1 c1 w1 hown1 hb1))
        go_roundg g
        case measure => omega
        case rel =>
          refine ⟨zs ++ [max to_ (vv - a)], max to_ (vv - a), A1, c1, by omega, by omega, by omega, by omega, by simp; omega, rfl, by simp, hown1, hh.out.2.1.trans hb1, ?_⟩
          rw [← hh.out.2.2, shF_next HN.out]
          have e : stepTo vv to_ a = max to_ (vv - a) := by simp [stepTo, hlt]; omega
          rw [e]; simp

def shortOk (from_ to_ a : Int) : Bool := inr from_ 0 100 && (inr to_ 0 100 && (inr a 1 20 && decide ((short from_ to_ a).length ≤ 30)))
def shortR (from_ to_ a : Int) : List Int := if shortOk from_ to_ a then short from_ to_ a else []
theorem inr_bd {x lo hi : Int} (h : inr x lo hi = true) : lo ≤ x ∧ x ≤ hi := by simpa [inr] using h
theorem RetSB.nil {w w' : World} (h : Below w.heap.size w w') : RetSB w [] false (.returned (.tuple #[.slice none 0 0, .bool false])) w' := ⟨none, 0, rfl, Ow.nil _ _, h⟩
theorem RetSB.lit {w : World} : RetSB w [] false (.returned (.tuple #[.slice (some ⟨w.heap.size, 0, none⟩) 0 0, .bool false])) (w.alloc (.cells #[] 3)) :=
  ⟨_, 0, rfl, Ow.lit0 w _ (Nat.le_refl _), (Below.refl _ _).alloc (Nat.le_refl _) _⟩
theorem RetSB.lit' {w0 w : World} (h : Below w0.heap.size w0 w) : RetSB w0 [] false (.returned (.tuple #[.slice (some ⟨w.heap.size, 0, none⟩) 0 0, .bool false])) (w.alloc (.cells #[] 3)) :=
  ⟨_, 0, rfl, Ow.lit0 w _ h.size, h.alloc h.size _⟩
set_option maxHeartbeats 1000000 in
theorem spec_ShortestTo (from_ to_ a : Int) (w : World) : Calls Try.prog 22 #[.int .i64 from_, .int .i64 to_, .int .i64 a] w (RetSB w (shortR from_ to_ a) (shortOk from_ to_ a)) := by
  rcases h1 : inr from_ 0 100 with _ | _
  · have eR : shortR from_ to_ a = [] := by simp [shortR, shortOk, h1]
    have eO : shortOk from_ to_ a = false := by simp [shortOk, h1]
    rw [eR, eO]
    clear eR eO
    go_enter Try.func22, Try.ntmps22
    go_wp2_with (first | (go_at_call 54; refine (spec_l9Speed _ _).mono ?_; rintro e w' ⟨rfl, rfl⟩) | (go_at_call 50; refine (spec_l9Rate _ _).mono ?_; rintro e w' ⟨rfl, rfl⟩))
    go_ret2
    exact RetSB.lit
  · rcases h2 : inr to_ 0 100 with _ | _
    · have eR : shortR from_ to_ a = [] := by simp [shortR, shortOk, h1, h2]
      have eO : shortOk from_ to_ a = false := by simp [shortOk, h1, h2]
      rw [eR, eO]
      clear eR eO
      go_enter Try.func22, Try.ntmps22
      go_wp2_with (first | (go_at_call 54; refine (spec_l9Speed _ _).mono ?_; rintro e w' ⟨rfl, rfl⟩) | (go_at_call 50; refine (spec_l9Rate _ _).mono ?_; rintro e w' ⟨rfl, rfl⟩))
      go_ret2
      exact RetSB.lit
    · rcases h3 : inr a 1 20 with _ | _
      · have eR : shortR from_ to_ a = [] := by simp [shortR, shortOk, h1, h2, h3]
        have eO : shortOk from_ to_ a = false := by simp [shortOk, h1, h2, h3]
        rw [eR, eO]
        clear eR eO
        go_enter Try.func22, Try.ntmps22
        go_wp2_with (first | (go_at_call 54; refine (spec_l9Speed _ _).mono ?_; rintro e w' ⟨rfl, rfl⟩) | (go_at_call 50; refine (spec_l9Rate _ _).mono ?_; rintro e w' ⟨rfl, rfl⟩))
        go_ret2
        exact RetSB.lit
      · have b1 := inr_bd h1
        have b2 := inr_bd h2
        have b3 := inr_bd h3
        have b4 := short_len from_ to_ a
        by_cases h4 : (short from_ to_ a).length ≤ 30
        · have e4 : decide ((short from_ to_ a).length ≤ 30) = true := by simpa using h4
          have eR : shortR from_ to_ a = short from_ to_ a := by simp [shortR, shortOk, h1, h2, h3, h4]
          have eO : shortOk from_ to_ a = true := by simp [shortOk, h1, h2, h3, h4]
          rw [eR, eO]
          clear eR eO
          go_enter Try.func22, Try.ntmps22
          go_wp2_with (first | (go_at_call 54; refine (spec_l9Speed _ _).mono ?_; rintro e w' ⟨rfl, rfl⟩) | (go_at_call 50; refine (spec_l9Rate _ _).mono ?_; rintro e w' ⟨rfl, rfl⟩))
          refine (spec_l9To _ _ _ _ b1.1 b1.2 b2.1 b2.2 b3.1 b3.2).mono ?_
          rintro e w1 ⟨A1, c1, rfl, ho1, hb1⟩
          go_wp2_with (first | (go_at_call 54; refine (spec_l9Speed _ _).mono ?_; rintro e w' ⟨rfl, rfl⟩) | (go_at_call 50; refine (spec_l9Rate _ _).mono ?_; rintro e w' ⟨rfl, rfl⟩))
          refine (spec_l9To _ _ _ _ b1.1 b1.2 b2.1 b2.2 b3.1 b3.2).mono ?_
          rintro e w2 ⟨A2, c2, rfl, ho2, hb2⟩
          go_wp2_with fail
          go_ret2
          exact ⟨A2, c2, rfl, ho2.base hb1.size, Below.thenn hb1 hb2 hb1.size⟩
        · have e4 : decide ((short from_ to_ a).length ≤ 30) = false := by simpa using h4
          have eR : shortR from_ to_ a = [] := by simp [shortR, shortOk, h1, h2, h3, h4]
          have eO : shortOk from_ to_ a = false := by simp [shortOk, h1, h2, h3, h4]
          rw [eR, eO]
          clear eR eO
          go_enter Try.func22, Try.ntmps22
          go_wp2_with (first | (go_at_call 54; refine (spec_l9Speed _ _).mono ?_; rintro e w' ⟨rfl, rfl⟩) | (go_at_call 50; refine (spec_l9Rate _ _).mono ?_; rintro e w' ⟨rfl, rfl⟩))
          refine (spec_l9To _ _ _ _ b1.1 b1.2 b2.1 b2.2 b3.1 b3.2).mono ?_
          rintro e w1 ⟨A1, c1, rfl, ho1, hb1⟩
          go_wp2_with (first | (go_at_call 54; refine (spec_l9Speed _ _).mono ?_; rintro e w' ⟨rfl, rfl⟩) | (go_at_call 50; refine (spec_l9Rate _ _).mono ?_; rintro e w' ⟨rfl, rfl⟩))
          go_ret2
          exact RetSB.lit' hb1
set_option maxHeartbeats 1000000 in
theorem impl_shortestTo (from_ to_ a : Int) (w : World) (hf0 : 0 ≤ from_) (hf1 : from_ ≤ 100) (ht0 : 0 ≤ to_) (ht1 : to_ ≤ 100) (ha0 : 1 ≤ a) (ha1 : a ≤ 20) :
    Calls Try.prog 57 #[.int .i64 from_, .int .i64 to_, .int .i64 a] w fun e w' => ∃ zs, RetSB w zs (decide ((short from_ to_ a).length ≤ 30)) e w' ∧ ((short from_ to_ a).length ≤ 30 → zs = short from_ to_ a) := by
  go_enter Try.func57, Try.ntmps57
  go_wp2
  go_loopg [8, 9] 100 (fun g o v wr => ∃ (zs : List Int) (vv : Int) (A : Option Addr) (c : Nat), 0 ≤ vv ∧ vv ≤ 100 ∧ vv - to_ ≤ g ∧ to_ - vv ≤ g ∧ zs.length + g ≤ 101 ∧ 1 ≤ zs.length ∧ zs.length ≤ 31 ∧ v = .int .i64 vv ∧ o = .slice A zs.length c ∧ Hid (Ow wr w.heap.size (.slice A zs.length c) zs ∧ Below w.heap.size w wr ∧ zs ++ shF g vv to_ a = short from_ to_ a))
  case atStart => exact ⟨[from_], from_, _, 1, hf0, hf1, by omega, by omega, by simp, by simp, by simp, rfl, rfl, Ow.lit w [from_] (by simp [maxLen]) (Nat.le_refl _), (Below.refl _ _).alloc (Nat.le_refl _) _, rfl⟩
  case round =>
    obtain ⟨zs, vv, A, c, h0, h1, h2, h3, h4, h40, h41, rfl, rfl, hh⟩ := hrel
    rcases Decidable.em (vv = to_) with rfl | hne
    · go_wp2_with fail
      go_ret2
      have h5 := hh.out.2.2
      rw [shF_end, List.append_nil] at h5
      subst h5
      exact ⟨_, ⟨A, c, ret_sb (by (rw [Bool.eq_iff_iff]; first | (simp; done) | (simp; omega) | omega)), hh.out.1, hh.out.2.1⟩, fun _ => rfl⟩
    · by_cases h31 : 30 < zs.length
      · have hb : (vv != to_) = true := by simpa using hne
        have HN := Lib.hid hne
        clear hne
        go_wp2_with fail
        go_ret2
        have h5 := congrArg List.length hh.out.2.2
        simp at h5
        have e : decide ((short from_ to_ a).length ≤ 30) = false := by simp; omega
        rw [e]
        exact ⟨_, ⟨A, c, ret_sb (by (rw [Bool.eq_iff_iff]; first | (simp; done) | (simp; omega) | omega)), hh.out.1, hh.out.2.1⟩, fun h => by omega⟩
      obtain ⟨g, rfl⟩ : ∃ g, gk = g + 1 := ⟨gk - 1, by omega⟩
      have hb : (vv != to_) = true := by simpa using hne
      have HN := Lib.hid hne
      have hsz := hh.out.2.1.size
      clear hne
      by_cases hlt : vv < to_
      · by_cases hm : to_ < vv + a
        · go_wp2_with (at_builtin; refine wp_app_int rfl (.tmp 34) (.tmp 36) rfl wr w.heap.size (.slice A zs.length c) zs (to_) rfl hh.out.1 rfl (by omega) hsz ?_; intro A1 c1 w1 hown1 hb1)
          go_roundg g
          case measure => omega
          case rel =>
            refine ⟨zs ++ [to_], to_, A1, c1, by omega, by omega, by omega, by omega, by simp; omega, by simp, by simp; omega, rfl, by simp, hown1, hh.out.2.1.trans hb1, ?_⟩
            rw [← hh.out.2.2, shF_next HN.out]
            have e : stepTo vv to_ a = to_ := by simp [stepTo, hlt]; omega
            rw [e]; simp
        · go_wp2_with (at_builtin; refine wp_app_int rfl (.tmp 34) (.tmp 36) rfl wr w.heap.size (.slice A zs.length c) zs (vv + a) rfl hh.out.1 rfl (by omega) hsz ?_; intro A1 c1 w1 hown1 hb1)
          go_roundg g
          case measure => omega
          case rel =>
            refine ⟨zs ++ [vv + a], vv + a, A1, c1, by omega, by omega, by omega, by omega, by simp; omega, by simp, by simp; omega, rfl, by simp, hown1, hh.out.2.1.trans hb1, ?_⟩
            rw [← hh.out.2.2, shF_next HN.out]
            have e : stepTo vv to_ a = vv + a := by simp [stepTo, hlt]; omega
            rw [e]; simp
      · by_cases hm : vv - a < to_
        · go_wp2_with (at_builtin; refine wp_app_int rfl (.tmp 34) (.tmp 36) rfl wr w.heap.size (.slice A zs.length c) zs (to_) rfl hh.out.1 rfl (by omega) hsz ?_; intro A1 c1 w1 hown1 hb1)
          go_roundg g
          case measure => omega
          case rel =>
            refine ⟨zs ++ [to_], to_, A1, c1, by omega, by omega, by omega, by omega, by simp; omega, by simp, by simp; omega, rfl, by simp, hown1, hh.out.2.1.trans hb1, ?_⟩
            rw [← hh.out.2.2, shF_next HN.out]
            have e : stepTo vv to_ a = to_ := by simp [stepTo, hlt]; omega
            rw [e]; simp
        · go_wp2_with (at_builtin; refine wp_app_int rfl (.tmp 34) (.tmp 36) rfl wr w.heap.size (.slice A zs.length c) zs (vv - a) rfl hh.out.1 rfl (by omega) hsz ?_; intro A1 c1 w1 hown1 hb1)
          go_roundg g
          case measure => omega
          case rel =>
            refine ⟨zs ++ [vv - a], vv - a, A1, c1, by omega, by omega, by omega, by omega, by simp; omega, by simp, by simp; omega, rfl, by simp, hown1, hh.out.2.1.trans hb1, ?_⟩
            rw [← hh.out.2.2, shF_next HN.out]
            have e : stepTo vv to_ a = vv - a := by simp [stepTo, hlt]; omega
            rw [e]; simp
set_option maxHeartbeats 1000000 in
theorem impl_ShortestTo (from_ to_ a : Int) (w : World) : Calls Try.prog 23 #[.int .i64 from_, .int .i64 to_, .int .i64 a] w (RetSB w (shortR from_ to_ a) (shortOk from_ to_ a)) := by
  rcases h1 : inr from_ 0 100 with _ | _
  · have eR : shortR from_ to_ a = [] := by simp [shortR, shortOk, h1]
    have eO : shortOk from_ to_ a = false := by simp [shortOk, h1]
    rw [eR, eO]
    clear eR eO
    go_enter Try.func23, Try.ntmps23
    go_wp2_with (first | (go_at_call 56; refine (impl_within _ _ _ _).mono ?_; rintro e w' ⟨rfl, rfl⟩) | (go_at_call 52; refine (impl_isAcceleration _ _).mono ?_; rintro e w' ⟨rfl, rfl⟩))
    go_ret2
    exact RetSB.nil (Below.refl _ _)
  · rcases h2 : inr to_ 0 100 with _ | _
    · have eR : shortR from_ to_ a = [] := by simp [shortR, shortOk, h1, h2]
      have eO : shortOk from_ to_ a = false := by simp [shortOk, h1, h2]
      rw [eR, eO]
      clear eR eO
      go_enter Try.func23, Try.ntmps23
      go_wp2_with (first | (go_at_call 56; refine (impl_within _ _ _ _).mono ?_; rintro e w' ⟨rfl, rfl⟩) | (go_at_call 52; refine (impl_isAcceleration _ _).mono ?_; rintro e w' ⟨rfl, rfl⟩))
      go_ret2
      exact RetSB.nil (Below.refl _ _)
    · rcases h3 : inr a 1 20 with _ | _
      · have eR : shortR from_ to_ a = [] := by simp [shortR, shortOk, h1, h2, h3]
        have eO : shortOk from_ to_ a = false := by simp [shortOk, h1, h2, h3]
        rw [eR, eO]
        clear eR eO
        go_enter Try.func23, Try.ntmps23
        go_wp2_with (first | (go_at_call 56; refine (impl_within _ _ _ _).mono ?_; rintro e w' ⟨rfl, rfl⟩) | (go_at_call 52; refine (impl_isAcceleration _ _).mono ?_; rintro e w' ⟨rfl, rfl⟩))
        go_ret2
        exact RetSB.nil (Below.refl _ _)
      · have b1 := inr_bd h1
        have b2 := inr_bd h2
        have b3 := inr_bd h3
        have b4 := short_len from_ to_ a
        by_cases h4 : (short from_ to_ a).length ≤ 30
        · have e4 : decide ((short from_ to_ a).length ≤ 30) = true := by simpa using h4
          have eR : shortR from_ to_ a = short from_ to_ a := by simp [shortR, shortOk, h1, h2, h3, h4]
          have eO : shortOk from_ to_ a = true := by simp [shortOk, h1, h2, h3, h4]
          rw [eR, eO]
          clear eR eO
          go_enter Try.func23, Try.ntmps23
          go_wp2_with (first | (go_at_call 56; refine (impl_within _ _ _ _).mono ?_; rintro e w' ⟨rfl, rfl⟩) | (go_at_call 52; refine (impl_isAcceleration _ _).mono ?_; rintro e w' ⟨rfl, rfl⟩))
          refine (impl_shortestTo _ _ _ _ b1.1 b1.2 b2.1 b2.2 b3.1 b3.2).mono ?_
          rintro e w1 ⟨zs, ⟨A1, c1, rfl, ho1, hb1⟩, hz⟩
          obtain rfl := hz h4
          clear hz
          go_wp2_with fail
          go_ret2
          exact ⟨A1, c1, rfl, ho1, hb1⟩
        · have e4 : decide ((short from_ to_ a).length ≤ 30) = false := by simpa using h4
          have eR : shortR from_ to_ a = [] := by simp [shortR, shortOk, h1, h2, h3, h4]
          have eO : shortOk from_ to_ a = false := by simp [shortOk, h1, h2, h3, h4]
          rw [eR, eO]
          clear eR eO
          go_enter Try.func23, Try.ntmps23
          go_wp2_with (first | (go_at_call 56; refine (impl_within _ _ _ _).mono ?_; rintro e w' ⟨rfl, rfl⟩) | (go_at_call 52; refine (impl_isAcceleration _ _).mono ?_; rintro e w' ⟨rfl, rfl⟩))
          refine (impl_shortestTo _ _ _ _ b1.1 b1.2 b2.1 b2.2 b3.1 b3.2).mono ?_
          rintro e w1 ⟨zs, ⟨A1, c1, rfl, ho1, hb1⟩, hz⟩
          clear hz
          go_wp2_with fail
          go_ret2
          exact RetSB.nil hb1

theorem shortR_len (from_ to_ a : Int) : (shortR from_ to_ a).length ≤ 1048576 := by
  have := short_len from_ to_ a
  unfold shortR
  split
  · omega
  · simp
/-- The double way until a stop. -/
def stopOk (v a : Int) : Bool := shortOk v 0 a
def stopR (v a : Int) : Int := if stopOk v a then dw (short v 0 a) else 0
theorem shF_mem (f : Nat) (v to_ a : Int) (h0 : 0 ≤ v) (h1 : v ≤ 100) (ht0 : 0 ≤ to_) (ht1 : to_ ≤ 100) (ha : 0 ≤ a) : ∀ z ∈ shF f v to_ a, 0 ≤ z ∧ z ≤ 100 := by
  induction f generalizing v with
  | zero => simp [shF]
  | succ f ih =>
    simp only [shF]
    split
    · simp
    · have hs : 0 ≤ stepTo v to_ a ∧ stepTo v to_ a ≤ 100 := by unfold stepTo; split <;> omega
      intro z hz
      simp only [List.mem_cons] at hz
      rcases hz with rfl | hz
      · exact hs
      · exact ih _ hs.1 hs.2 z hz
theorem short_mem {from_ to_ a : Int} (h : shortOk from_ to_ a = true) : ∀ z ∈ short from_ to_ a, 0 ≤ z ∧ z ≤ 100 := by
  simp only [shortOk, Bool.and_eq_true, inr, decide_eq_true_eq] at h
  intro z hz
  simp only [short, List.mem_cons] at hz
  rcases hz with rfl | hz
  · exact h.1
  · exact shF_mem 100 _ _ _ h.1.1 h.1.2 h.2.1.1 h.2.1.2 (by omega) z hz
theorem shortOk_len {from_ to_ a : Int} (h : shortOk from_ to_ a = true) : (short from_ to_ a).length ≤ 30 := by
  simp only [shortOk, Bool.and_eq_true, decide_eq_true_eq] at h
  exact h.2.2.2
set_option maxHeartbeats 1000000 in
theorem spec_StopWay (v a : Int) (w : World) : Calls Try.prog 26 #[.int .i64 v, .int .i64 a] w (Ret w (.tuple #[.int .i64 (stopR v a), .bool (stopOk v a)])) := by
  rcases h : stopOk v a with _ | _
  · have eR : stopR v a = 0 := by simp [stopR, h]
    have eS : shortR v 0 a = [] := by simp [shortR, show shortOk v 0 a = false from h]
    have h' : shortOk v 0 a = false := h
    rw [eR]
    go_enter Try.func26, Try.ntmps26
    go_wp2_with fail
    refine (spec_ShortestTo _ _ _ _).mono ?_
    rw [eS, h']
    rintro e w1 ⟨A1, c1, rfl, ho1, hb1⟩
    go_wp2_with fail
    go_ret2
    exact ⟨rfl, hb1⟩
  · have eR : stopR v a = dw (short v 0 a) := by simp [stopR, h]
    have eS : shortR v 0 a = short v 0 a := by simp [shortR, show shortOk v 0 a = true from h]
    have h' : shortOk v 0 a = true := h
    have hlen := shortOk_len h'
    have hmem := Lib.hid (short_mem h')
    rw [eR]
    go_enter Try.func26, Try.ntmps26
    go_wp2_with fail
    refine (spec_ShortestTo _ _ _ _).mono ?_
    rw [eS, h']
    rintro e w1 ⟨A1, c1, rfl, ho1, hb1⟩
    go_wp2_with fail
    refine (spec_l9Way _ _ _ _ _ ho1.rd (by omega) (fun z hz => by have := hmem.out z hz; omega)).mono ?_
    rintro e w2 ⟨rfl, nq, rfl⟩
    go_wp2_with fail
    go_ret2
    exact ⟨rfl, below_drewN hb1 _⟩
set_option maxHeartbeats 1000000 in
theorem impl_StopWay (v a : Int) (w : World) : Calls Try.prog 27 #[.int .i64 v, .int .i64 a] w (Ret w (.tuple #[.int .i64 (stopR v a), .bool (stopOk v a)])) := by
  rcases h : stopOk v a with _ | _
  · have eR : stopR v a = 0 := by simp [stopR, h]
    have eS : shortR v 0 a = [] := by simp [shortR, show shortOk v 0 a = false from h]
    have h' : shortOk v 0 a = false := h
    rw [eR]
    go_enter Try.func27, Try.ntmps27
    go_wp2_with fail
    refine (impl_ShortestTo _ _ _ _).mono ?_
    rw [eS, h']
    rintro e w1 ⟨A1, c1, rfl, ho1, hb1⟩
    go_wp2_with fail
    go_ret2
    exact ⟨rfl, hb1⟩
  · have eR : stopR v a = dw (short v 0 a) := by simp [stopR, h]
    have eS : shortR v 0 a = short v 0 a := by simp [shortR, show shortOk v 0 a = true from h]
    have h' : shortOk v 0 a = true := h
    have hlen := shortOk_len h'
    have hmem := Lib.hid (short_mem h')
    rw [eR]
    go_enter Try.func27, Try.ntmps27
    go_wp2_with fail
    refine (impl_ShortestTo _ _ _ _).mono ?_
    rw [eS, h']
    rintro e w1 ⟨A1, c1, rfl, ho1, hb1⟩
    go_wp2_with fail
    refine (impl_doubleWay _ _ _ _ _ ho1.rd (by omega) (fun z hz => by have := hmem.out z hz; omega)).mono ?_
    rintro e w2 ⟨rfl, nq, rfl⟩
    go_wp2_with fail
    go_ret2
    exact ⟨rfl, below_drewN hb1 _⟩

/-- The greatest speed up to k with a way until a stop. -/
def sfP (way a : Int) (v : Int) : Bool := stopOk v a && decide (stopR v a ≤ way)
def sfF (way a : Int) : Nat → Int
  | 0 => 0
  | k + 1 => if sfP way a (((k + 1 : Nat) : Int)) then ((k + 1 : Nat) : Int) else sfF way a k
def speedOk (way a : Int) : Bool := inr way 0 100000 && inr a 1 20
def speedR (way a : Int) : Int := if speedOk way a then sfF way a 100 else 0
set_option maxHeartbeats 1000000 in
theorem impl_SpeedFor (way a : Int) (w : World) : Calls Try.prog 33 #[.int .i64 way, .int .i64 a] w (Ret w (.tuple #[.int .i64 (speedR way a), .bool (speedOk way a)])) := by
  rcases h : speedOk way a with _ | _
  · have eR : speedR way a = 0 := by simp [speedR, h]
    rw [eR]
    have h' : inr way 0 100000 = false ∨ inr way 0 100000 = true ∧ inr a 1 20 = false := by
      simp only [speedOk, Bool.and_eq_false_iff] at h
      rcases h with h | h
      · exact .inl h
      · rcases hw : inr way 0 100000 with _ | _
        · exact .inl rfl
        · exact .inr ⟨rfl, h⟩
    clear h
    rcases h' with h1 | ⟨h1, h2⟩
    · go_enter Try.func33, Try.ntmps33
      go_wp2_with (first | (go_at_call 56; refine (impl_within _ _ _ _).mono ?_; rintro e w' ⟨rfl, rfl⟩) | (go_at_call 52; refine (impl_isAcceleration _ _).mono ?_; rintro e w' ⟨rfl, rfl⟩))
      go_ret2
      exact ⟨rfl, Below.refl _ _⟩
    · go_enter Try.func33, Try.ntmps33
      go_wp2_with (first | (go_at_call 56; refine (impl_within _ _ _ _).mono ?_; rintro e w' ⟨rfl, rfl⟩) | (go_at_call 52; refine (impl_isAcceleration _ _).mono ?_; rintro e w' ⟨rfl, rfl⟩))
      go_ret2
      exact ⟨rfl, Below.refl _ _⟩
  · have eR : speedR way a = sfF way a 100 := by simp [speedR, h]
    rw [eR]
    simp only [speedOk, Bool.and_eq_true] at h
    obtain ⟨h1, h2⟩ := h
    go_enter Try.func33, Try.ntmps33
    go_wp2_with (first | (go_at_call 56; refine (impl_within _ _ _ _).mono ?_; rintro e w' ⟨rfl, rfl⟩) | (go_at_call 52; refine (impl_isAcceleration _ _).mono ?_; rintro e w' ⟨rfl, rfl⟩))
    go_loopg [6] 100 (fun g v wr => g ≤ 100 ∧ v = .int .i64 g ∧ Hid (Below w.heap.size w wr ∧ sfF way a g = sfF way a 100))
    case atStart => exact ⟨by omega, rfl, Below.refl _ _, rfl⟩
    case round =>
      obtain ⟨hg, rfl, hh⟩ := hrel
      rcases gk with _ | k
      · go_wp2_with fail
        go_ret2
        exact ⟨ret_ib hh.out.2 rfl, hh.out.1⟩
      · have e1 : ((k + 1 : Nat) : Int) = (k : Int) + 1 := by omega
        have hs := hh.out.2
        have hB := hh.out.1
        rcases hp : sfP way a ((k + 1 : Nat) : Int) with _ | _
        · rw [sfF, if_neg (by rw [hp]; simp)] at hs
          have HS := Lib.hid hs
          clear hs
          rw [e1] at hp
          have hp' : stopOk ((k : Int) + 1) a = false ∨ stopOk ((k : Int) + 1) a = true ∧ decide (stopR ((k : Int) + 1) a ≤ way) = false := by
            simp only [sfP, Bool.and_eq_false_iff] at hp
            rcases hq : stopOk ((k : Int) + 1) a with _ | _
            · exact .inl rfl
            · exact .inr ⟨rfl, by rcases hp with hp | hp; · rw [hq] at hp; cases hp
                                  · exact hp⟩
          clear hp e1
          rcases hp' with hp1 | ⟨hp1, hp2⟩
          · go_wp2_with fail
            refine (impl_StopWay _ _ _).mono ?_
            rintro e w1 ⟨rfl, hb1⟩
            go_wp2_with fail
            go_roundg k
            case measure => omega
            case rel => exact ⟨by omega, by go_num, Below.thenn hB hb1 hB.size, HS.out⟩
          · go_wp2_with fail
            refine (impl_StopWay _ _ _).mono ?_
            rintro e w1 ⟨rfl, hb1⟩
            go_wp2_with fail
            go_roundg k
            case measure => omega
            case rel => exact ⟨by omega, by go_num, Below.thenn hB hb1 hB.size, HS.out⟩
        · rw [sfF, if_pos hp] at hs
          have HS := Lib.hid hs
          clear hs
          rw [e1] at hp
          simp only [sfP, Bool.and_eq_true] at hp
          obtain ⟨hp1, hp2⟩ := hp
          clear e1
          go_wp2_with fail
          refine (impl_StopWay _ _ _).mono ?_
          rintro e w1 ⟨rfl, hb1⟩
          go_wp2_with fail
          go_ret2
          exact ⟨ret_ib (by rw [← HS.out]; omega) rfl, Below.thenn hB hb1 hB.size⟩
set_option maxHeartbeats 1000000 in
theorem spec_SpeedFor (way a : Int) (w : World) : Calls Try.prog 32 #[.int .i64 way, .int .i64 a] w (Ret w (.tuple #[.int .i64 (speedR way a), .bool (speedOk way a)])) := by
  rcases h : speedOk way a with _ | _
  · have eR : speedR way a = 0 := by simp [speedR, h]
    rw [eR]
    have h' : inr way 0 100000 = false ∨ inr way 0 100000 = true ∧ inr a 1 20 = false := by
      simp only [speedOk, Bool.and_eq_false_iff] at h
      rcases h with h | h
      · exact .inl h
      · rcases hw : inr way 0 100000 with _ | _
        · exact .inl rfl
        · exact .inr ⟨rfl, h⟩
    clear h
    rcases h' with h1 | ⟨h1, h2⟩
    · go_enter Try.func32, Try.ntmps32
      go_wp2_with (first | (go_at_call 61; refine (spec_l1In _ _ _ _).mono ?_; rintro e w' ⟨rfl, rfl⟩) | (go_at_call 50; refine (spec_l9Rate _ _).mono ?_; rintro e w' ⟨rfl, rfl⟩))
      go_ret2
      exact ⟨rfl, Below.refl _ _⟩
    · go_enter Try.func32, Try.ntmps32
      go_wp2_with (first | (go_at_call 61; refine (spec_l1In _ _ _ _).mono ?_; rintro e w' ⟨rfl, rfl⟩) | (go_at_call 50; refine (spec_l9Rate _ _).mono ?_; rintro e w' ⟨rfl, rfl⟩))
      go_ret2
      exact ⟨rfl, Below.refl _ _⟩
  · have eR : speedR way a = sfF way a 100 := by simp [speedR, h]
    rw [eR]
    simp only [speedOk, Bool.and_eq_true] at h
    obtain ⟨h1, h2⟩ := h
    go_enter Try.func32, Try.ntmps32
    go_wp2_with (first | (go_at_call 61; refine (spec_l1In _ _ _ _).mono ?_; rintro e w' ⟨rfl, rfl⟩) | (go_at_call 50; refine (spec_l9Rate _ _).mono ?_; rintro e w' ⟨rfl, rfl⟩))
    go_loopg [6, 7] 100 (fun g b v wr => ∃ k : Nat, ∃ bv : Int, k ≤ 100 ∧ 100 ≤ k + g ∧ b = .int .i64 bv ∧ v = .int .i64 (k + 1) ∧ Hid (Below w.heap.size w wr ∧ bv = sfF way a k))
    case atStart => exact ⟨0, 0, by omega, by omega, rfl, rfl, Below.refl _ _, rfl⟩
    case round =>
      obtain ⟨k, bv, hk1, hk2, rfl, rfl, hh⟩ := hrel
      by_cases hlt : k < 100
      · have hB := hh.out.1
        rcases hp : sfP way a ((k + 1 : Nat) : Int) with _ | _
        · have HS : Hid (bv = sfF way a (k + 1)) := by
            have h5 := hh.out.2
            show bv = sfF way a (k + 1)
            rw [sfF, if_neg (by rw [hp]; simp)]
            exact h5
          rw [show ((k + 1 : Nat) : Int) = (k : Int) + 1 by omega] at hp
          have hp' : stopOk ((k : Int) + 1) a = false ∨ stopOk ((k : Int) + 1) a = true ∧ decide (stopR ((k : Int) + 1) a ≤ way) = false := by
            simp only [sfP, Bool.and_eq_false_iff] at hp
            rcases hq : stopOk ((k : Int) + 1) a with _ | _
            · exact .inl rfl
            · exact .inr ⟨rfl, by rcases hp with hp | hp; · rw [hq] at hp; cases hp
                                  · exact hp⟩
          clear hp
          rcases hp' with hp1 | ⟨hp1, hp2⟩
          · go_wp2_with fail
            refine (spec_StopWay _ _ _).mono ?_
            rintro e w1 ⟨rfl, hb1⟩
            go_wp2_with fail
            go_roundg (100 - (k + 1))
            case measure => omega
            case rel => exact ⟨k + 1, bv, by omega, by omega, rfl, by go_num, Below.thenn hB hb1 hB.size, HS.out⟩
          · go_wp2_with fail
            refine (spec_StopWay _ _ _).mono ?_
            rintro e w1 ⟨rfl, hb1⟩
            go_wp2_with fail
            go_roundg (100 - (k + 1))
            case measure => omega
            case rel => exact ⟨k + 1, bv, by omega, by omega, rfl, by go_num, Below.thenn hB hb1 hB.size, HS.out⟩
        · have HS : Hid ((k : Int) + 1 = sfF way a (k + 1)) := by
            show (k : Int) + 1 = sfF way a (k + 1)
            rw [sfF, if_pos hp]
            omega
          rw [show ((k + 1 : Nat) : Int) = (k : Int) + 1 by omega] at hp
          simp only [sfP, Bool.and_eq_true] at hp
          obtain ⟨hp1, hp2⟩ := hp
          go_wp2_with fail
          refine (spec_StopWay _ _ _).mono ?_
          rintro e w1 ⟨rfl, hb1⟩
          go_wp2_with fail
          go_roundg (100 - (k + 1))
          case measure => omega
          case rel => exact ⟨k + 1, (k : Int) + 1, by omega, by omega, rfl, by go_num, Below.thenn hB hb1 hB.size, HS.out⟩
      · go_wp2_with fail
        go_ret2
        have e : k = 100 := by omega
        subst e
        exact ⟨ret_ib hh.out.2 rfl, hh.out.1⟩
end Go.Proofs.Ythhameglamemkaa
