/- The fastest profile under limits: walks. -/
import Derived.Test.YthhameglamemkaaFast
import Derived.Deep.RegionWith
namespace Go.Proofs.Ythhameglamemkaa
open Go.RowKit
set_option linter.unusedVariables false
set_option linter.unusedSimpArgs false

theorem set_mid {ts xs : List Int} {k : Nat} {x v : Int} (hts : ts.length = k) (hx : xs[k]? = some x) : (ts ++ xs.drop k).set k v = ts ++ [v] ++ xs.drop (k + 1) := by
  rw [List.set_append, if_neg (by omega), drop_at hx, hts, Nat.sub_self, List.set_cons_zero]
  simp
theorem at_mid {ts xs : List Int} {k : Nat} {x : Int} (hts : ts.length = k) (h : (ts ++ xs.drop k)[k]? = some x) : xs[k]? = some x := by
  rw [List.getElem?_append_right (by omega), hts, Nat.sub_self, List.getElem?_drop] at h
  simpa using h
theorem at_left {ts xs : List Int} {k j : Nat} (hts : ts.length = k) (hj : j < k) : (ts ++ xs)[j]? = ts[j]? := List.getElem?_append_left (by omega)
theorem fwd_step {ts O : List Int} {a p x : Int} {k : Nat} {F : List Int} (hx : O[k]? = some x) (h : ts ++ fwdF a p (O.drop k) = F) : (ts ++ [min x (p + a)]) ++ fwdF a (min x (p + a)) (O.drop (k + 1)) = F := by
  rw [← h, drop_at hx]; simp [fwdF]
theorem last_at {ts : List Int} {k : Nat} {v : Int} (hts : ts.length = k) : (ts ++ [v])[k + 1 - 1]? = some v := by
  rw [Nat.add_sub_cancel, List.getElem?_append_right (by omega), hts]; simp
theorem bwd_step {O : List Int} {a x y : Int} {j : Nat} {s : List Int} (hx : O[j]? = some x) (h : bwd a (O.drop (j + 1)) = y :: s) : bwd a (O.drop j) = min x (y + a) :: y :: s := by
  rw [drop_at hx]; exact bwd_cons a x _ y s h
theorem set_back {O S : List Int} {j : Nat} {x v : Int} (hx : O[j]? = some x) : (O.take (j + 1) ++ S).set j v = O.take j ++ v :: S := by
  have hj := lt_of_at hx
  rw [take_next hx, List.append_assoc, List.set_append, if_neg (by simp; omega)]
  have e : j - (O.take j).length = 0 := by simp; omega
  rw [e]; simp
theorem at_back {O S : List Int} {j : Nat} {x y : Int} (hj : j + 1 ≤ O.length) (h : (O.take (j + 1) ++ y :: S)[j + 1]? = some x) : x = y := by
  rw [List.getElem?_append_right (by simp; omega)] at h
  have e : j + 1 - (O.take (j + 1)).length = 0 := by simp; omega
  rw [e] at h
  simpa using h.symm
theorem at_back0 {O S : List Int} {j : Nat} {x : Int} (hj : j + 1 ≤ O.length) (h : (O.take (j + 1) ++ S)[j]? = some x) : O[j]? = some x := by
  rw [List.getElem?_append_left (by simp; omega), List.getElem?_take, if_pos (by omega)] at h
  exact h
theorem bwd_len (a : Int) (l : List Int) : (bwd a l).length = l.length := lep_len (bwd_le a l)
theorem fwd_len (a : Int) (l : List Int) : (fwd a l).length = l.length := lep_len (fwd_le a l)
theorem setHd_len (f : Int) (l : List Int) : (setHd f l).length = l.length := by cases l <;> rfl
theorem setHd_set {l : List Int} {f : Int} (h : 0 < l.length) : l.set 0 f = setHd f l := by
  cases l with
  | nil => simp at h
  | cons x r => rfl

def fastOk (l : List Int) (f a : Int) : Bool := prof l && (inr a 1 20 && (decide (0 ≤ f) && match bwd a l with | [] => false | y :: _ => decide (f ≤ y)))
def fastR (l : List Int) (f a : Int) : List Int := if fastOk l f a then fS l f a else []
theorem fS_len (l : List Int) (f a : Int) : (fS l f a).length = l.length := by rw [fS, fwd_len, setHd_len, bwd_len]
theorem fI_len (l : List Int) (f a : Int) : (fI l f a).length = l.length := by rw [fI, bwd_len, fwd_len, setHd_len]
theorem fastR_len (l : List Int) (f a : Int) (h : l.length ≤ 1048576) : (fastR l f a).length ≤ 1048576 := by
  unfold fastR
  split
  · rw [fS_len]; exact h
  · simp
theorem lep_bd : ∀ {m l : List Int} {hi : Int}, lep m l → (∀ z ∈ l, z ≤ hi) → ∀ z ∈ m, z ≤ hi
  | [], [], _, _, _, z, hz => by simp at hz
  | x :: r, y :: s, hi, ⟨h, hs⟩, hl, z, hz => by
    simp only [List.mem_cons] at hz
    rcases hz with rfl | hz
    · have := hl y (by simp); omega
    · exact lep_bd hs (fun z hz => hl z (by simp [hz])) z hz

set_option maxHeartbeats 4000000 in
/-- The walk of the program's function where its first tests pass. -/
theorem impl_Fastest_in (A : Option Addr) (n c : Nat) (xs : List Int) (f a x0 : Int) (w : World) (h : Rd w 1 A n (IV xs)) (hA : A = none → c = 0 ∧ n = 0) (hp : prof xs = true) (hx0 : xs[0]? = some x0) (hf : inr f 0 x0 = true) (ha : inr a 1 20 = true) :
    Calls Try.prog 35 #[.slice A n c, .int .i64 f, .int .i64 a] w fun e w' => ((fI xs f a).head? = some f → RetSB w (fI xs f a) true e w') ∧ ((fI xs f a).head? ≠ some f → RetSB w [] false e w') := by
  have hl := Lib.hid h.len
  have HA := Lib.hid hA
  clear hA
  have hpl := prof_len hp
  rw [h.len] at hpl
  have hm : n ≤ 9223372036854775807 := by omega
  have hx01 := prof_mem hp x0 (mem_at hx0)
  have hf1 := inr_bd hf
  have ha1 := inr_bd ha
  have HM := Lib.hid (prof_mem hp)
  obtain ⟨b0, off0, x0', rfl, hx0', hc0⟩ := h.at1 (k := 0) (by omega)
  rw [hx0] at hx0'
  obtain rfl : x0 = x0' := by injection hx0'
  simp only [Nat.add_zero] at hc0
  have HX0 := Lib.hid hx0
  clear hx0 hx0'
  have hn0 : (0 : Int) < n := by omega
  go_enter Try.func35, Try.ntmps35
  go_wp2_with (first | (go_at_call 16; refine (impl_IsProfile _ _ _ _ _ h hm).mono ?_; rintro e w' ⟨rfl, rfl⟩) | (go_at_call 56; refine (impl_within _ _ _ _).mono ?_; rintro e w' ⟨rfl, rfl⟩) | (go_at_call 52; refine (impl_isAcceleration _ _).mono ?_; rintro e w' ⟨rfl, rfl⟩))
  refine (slices_Clone _ _ _ xs _ h (by omega) HA.out).mono ?_
  rintro e w1 ⟨A1, c1, rfl, ho1, hb1⟩
  rw [hl.out] at ho1 ⊢
  obtain ⟨g, z, rfl, hg, hz, hcz, hfz, hst⟩ := ho1.store (k := 0) (by omega)
  have HS := Lib.hid (hst f)
  have HB1 := Lib.hid hb1
  clear hst hz hb1 ho1
  go_wp2_with fail
  have hO : Ow (w1.setCell ⟨g, 0, none⟩ (.int .i64 f)) w.heap.size (.slice (some ⟨g, 0, none⟩) n c1) (setHd f xs) := by
    have := HS.out.1
    rw [setHd_set (by rw [hl.out]; omega)] at this
    exact this
  have hBO : Below w.heap.size w (w1.setCell ⟨g, 0, none⟩ (.int .i64 f)) := HB1.out.setCell (p := ⟨g, 0, none⟩) hg _
  have hbd : ∀ z ∈ setHd f xs, 0 ≤ z ∧ z ≤ 100 := by
    intro z hz
    have hM := HM.out
    have e := HX0.out
    match xs, hM, e, hz with
    | x :: r, hM, e, hz =>
      simp only [setHd, List.mem_cons] at hz
      rcases hz with rfl | hz
      · omega
      · exact hM z (by simp [hz])
  obtain ⟨O, hOO⟩ : ∃ O, O = setHd f xs := ⟨_, rfl⟩
  have hOl : O.length = n := by rw [hOO, setHd_len, hl.out]
  have hO0 : O[0]? = some f := by
    rw [hOO]
    have e := HX0.out
    match xs, e with
    | x :: r, _ => rfl
  rw [← hOO] at hO hbd
  have HO := Lib.hid hOO
  have HOL := Lib.hid hOl
  have HO0 := Lib.hid hO0
  have HBD := Lib.hid hbd
  have HO1 := Lib.hid hO
  have HBO := Lib.hid hBO
  clear hOO hOl hO0 hbd hO hBO HS hcz hfz
  go_loopg [9] n (fun gg i wr => ∃ k : Nat, 1 ≤ k ∧ k ≤ n ∧ n ≤ k + gg ∧ i = .int .i64 k ∧ Hid (∃ (p : Int) (ts : List Int), ts[k - 1]? = some p ∧ ts.length = k ∧ ts ++ fwdF a p (O.drop k) = fwd a O ∧ (∀ z ∈ ts, 0 ≤ z ∧ z ≤ 100) ∧ Ow wr w.heap.size (.slice (some ⟨g, 0, none⟩) n c1) (ts ++ O.drop k) ∧ Below w.heap.size w wr))
  case atStart =>
    have e := drop_at HO0.out
    simp at e
    refine ⟨1, by omega, by omega, by omega, rfl, f, [f], rfl, rfl, ?_, ?_, ?_, HBO.out⟩
    · rw [e]; simp [fwd]
    · intro z hz
      have : z = f := by simpa using hz
      omega
    · have := HO1.out
      rw [e] at this
      simpa using this
  case round =>
    obtain ⟨k, hk0, hk1, hk2, rfl, hh⟩ := hrel
    by_cases hlt : k < n
    · obtain ⟨p, ts, hp1, hts, hF, hmem, hown, hB⟩ := hh.out
      obtain ⟨g', x, eg, hgg, hx, hcx, hfx, hst⟩ := hown.store (k := k) hlt
      injection eg with eg
      injection eg with eg1
      subst eg1
      obtain ⟨b', off', p', e, hp', hcp⟩ := hown.rd.at1 (k := k - 1) (by omega)
      injection e with e
      injection e with e1 e2
      subst e1 e2
      rw [Nat.zero_add] at hcp
      rw [at_left hts (by omega), hp1] at hp'
      obtain rfl : p = p' := by injection hp'
      have hxO := at_mid hts hx
      have hbx := HBD.out x (mem_at hxO)
      have hbp := hmem p (mem_at hp1)
      have b1 := hbx.1
      have b2 := hbx.2
      have b3 := hbp.1
      have b4 := hbp.2
      have HX := Lib.hid hxO
      have HST := Lib.hid hst
      have HF := Lib.hid hF
      have HTS := Lib.hid hts
      have HME := Lib.hid hmem
      have w1' : IntKind.i64.wrap (↑k - 1) = ↑k - 1 := IntWalk.i64_in _ (by omega)
      have w2' : (0 : Int) ≤ ↑k - 1 := by omega
      have w3 : ((k : Int) - 1).toNat = k - 1 := by omega
      have w4 : IntKind.i64.wrap (p + a) = p + a := IntWalk.i64_in _ (by omega)
      have w6 : (k : Int) - 1 < n := by omega
      clear hx hxO hst hbx hbp hp1 hp' hF hts hown hh hmem
      by_cases hm' : p + a < x
      · go_wp2_with fail
        go_region
        go_wp2_with fail
        go_roundg (n - (k + 1))
        case measure => omega
        case rel =>
          have em : min x (p + a) = p + a := by omega
          refine ⟨k + 1, by omega, by omega, by omega, by go_num, p + a, ts ++ [p + a], last_at HTS.out, by simp [HTS.out], ?_, ?_, ?_, (hB.setCell (p := ⟨g, k, none⟩) hg _).drew⟩
          · have := fwd_step HX.out HF.out
            rwa [em] at this
          · intro z hz
            simp only [List.mem_append, List.mem_singleton] at hz
            rcases hz with hz | rfl
            · exact HME.out z hz
            · omega
          · have h5 := (HST.out (p + a)).1
            rw [set_mid HTS.out HX.out] at h5
            exact h5
      · go_wp2_with fail
        go_region
        go_wp2_with fail
        go_roundg (n - (k + 1))
        case measure => omega
        case rel =>
          have em : min x (p + a) = x := by omega
          refine ⟨k + 1, by omega, by omega, by omega, by go_num, x, ts ++ [x], last_at HTS.out, by simp [HTS.out], ?_, ?_, ?_, (hB.setCell (p := ⟨g, k, none⟩) hg _).drew⟩
          · have := fwd_step HX.out HF.out
            rwa [em] at this
          · intro z hz
            simp only [List.mem_append, List.mem_singleton] at hz
            rcases hz with hz | rfl
            · exact HME.out z hz
            · omega
          · have h5 := (HST.out x).1
            rw [set_mid HTS.out HX.out] at h5
            exact h5
    · obtain ⟨p, ts, hp1, hts, hF, hmem, hown, hB⟩ := hh.out
      have e0 : ts ++ O.drop k = fwd a O := by rw [← hF, drop_end (by rw [HOL.out]; omega)]; rfl
      rw [e0] at hown
      have HF2 : Hid (∀ z ∈ fwd a O, 0 ≤ z ∧ z ≤ 100) := by
        have e1 : O.drop k = [] := drop_end (by rw [HOL.out]; omega)
        rw [e1, List.append_nil] at e0
        rw [← e0]
        exact hmem
      have HW := Lib.hid hown
      clear hp1 hts hF hmem hh e0 hown
      have HU := HF2
      obtain ⟨U, hUU⟩ : ∃ U, U = fwd a O := ⟨_, rfl⟩
      have hUl : U.length = n := by rw [hUU, fwd_len, HOL.out]
      have HUI : Hid (fI xs f a = bwd a U) := by rw [hUU, HO.out]; exact rfl
      rw [← hUU] at HW HF2
      have HUL := Lib.hid hUl
      clear hUU hUl HU
      go_wp2_with fail
      go_loopg [10] n (fun gg i wr => ∃ j : Nat, j ≤ gg ∧ j + 1 ≤ n ∧ i = .int .i64 ((j : Int) - 1) ∧ Hid (Ow wr w.heap.size (.slice (some ⟨g, 0, none⟩) n c1) (U.take j ++ bwd a (U.drop j)) ∧ (∀ z ∈ bwd a (U.drop j), 0 ≤ z ∧ z ≤ 100) ∧ Below w.heap.size w wr))
      case atStart =>
        have hU1 : ∃ y, U.drop (n - 1) = [y] := by
          have h5 := HUL.out
          have : (U.drop (n - 1)).length = 1 := by rw [List.length_drop]; omega
          match U.drop (n - 1), this with
          | [y], _ => exact ⟨y, rfl⟩
        obtain ⟨y, hy⟩ := hU1
        have e5 : U.take (n - 1) ++ bwd a (U.drop (n - 1)) = U := by
          rw [hy]
          have := List.take_append_drop (n - 1) U
          rw [hy] at this
          exact this
        refine ⟨n - 1, by omega, by omega, by go_num, by rw [e5]; exact HW.out, ?_, hB⟩
        rw [hy]
        intro z hz
        refine HF2.out z ?_
        have hz' : z ∈ U.drop (n - 1) := by rw [hy]; exact hz
        exact List.mem_of_mem_drop hz'
      case round =>
        obtain ⟨j, hj1, hj2, rfl, hh⟩ := hrel
        rcases j with _ | j
        · have hc2 := hh.out.1.rd.at1 (k := 0) (by omega)
          obtain ⟨b', off', y, e, hy, hcy⟩ := hc2
          injection e with e
          injection e with e1 e2
          subst e1 e2
          rw [Nat.zero_add] at hcy
          simp only [List.take_zero, List.nil_append, List.drop_zero] at hy
          rw [← HUI.out] at hy
          have e0 : ((0 : Nat) : Int) - 1 = -1 := by omega
          rw [e0]
          have hl2 : (fI xs f a).length = n := by rw [fI_len, hl.out]
          have hown : Ow wr w.heap.size (.slice (some ⟨g, 0, none⟩) n c1) (fI xs f a) := by
            have := hh.out.1
            simp only [List.take_zero, List.nil_append, List.drop_zero] at this
            rw [HUI.out]; exact this
          have HY : Hid ((fI xs f a).head? = some y) := by rw [List.head?_eq_getElem?]; exact hy
          have HL2 := Lib.hid hl2
          have HW2 := Lib.hid hown
          have hB2 := hh.out.2.2
          clear hy hl2 hown hh
          rcases Decidable.em (y = f) with rfl | hne
          · go_wp2_with fail
            go_ret2
            exact ⟨fun _ => ⟨_, c1, ret_ssb HL2.out.symm, by rw [HL2.out]; exact HW2.out, hB2⟩, fun h => absurd HY.out h⟩
          · have hb : (y != f) = true := by simpa using hne
            have HN := Lib.hid hne
            clear hne
            go_wp2_with fail
            go_ret2
            exact ⟨fun h => absurd (by have := HY.out; rw [h] at this; injection this with e; exact e.symm) HN.out, fun _ => RetSB.nil hB2⟩
        · have e0 : ((j + 1 : Nat) : Int) - 1 = (j : Int) := by omega
          rw [e0]
          clear e0
          obtain ⟨y, s, hys⟩ : ∃ y s, bwd a (U.drop (j + 1)) = y :: s := by
            have : (bwd a (U.drop (j + 1))).length = n - (j + 1) := by rw [bwd_len, List.length_drop, HUL.out]
            rcases hb : bwd a (U.drop (j + 1)) with _ | ⟨y, s⟩
            · rw [hb] at this; simp at this; omega
            · exact ⟨y, s, rfl⟩
          obtain ⟨hown, hmem, hB⟩ := hh.out
          rw [hys] at hown hmem
          obtain ⟨g', x, eg, hgg, hx, hcx, hfx, hst⟩ := hown.store (k := j) (by omega)
          injection eg with eg
          injection eg with eg1
          subst eg1
          obtain ⟨b', off', y', e, hy', hcy⟩ := hown.rd.at1 (k := j + 1) (by omega)
          injection e with e
          injection e with e1 e2
          subst e1 e2
          rw [Nat.zero_add] at hcy
          obtain rfl := at_back (by rw [HUL.out]; omega) hy'
          have hxU := at_back0 (by rw [HUL.out]; omega) hx
          have hbx := HF2.out x (mem_at hxU)
          have hby := hmem y' (by simp)
          have b1 := hbx.1
          have b2 := hbx.2
          have b3 := hby.1
          have b4 := hby.2
          have HX := Lib.hid hxU
          have HST := Lib.hid hst
          have HYS := Lib.hid hys
          have HME := Lib.hid hmem
          have w1' : IntKind.i64.wrap (↑j + 1) = ↑j + 1 := IntWalk.i64_in _ (by omega)
          have w2' : (0 : Int) ≤ ↑j + 1 := by omega
          have w3 : ((j : Int) + 1).toNat = j + 1 := by omega
          have w4 : IntKind.i64.wrap (y' + a) = y' + a := IntWalk.i64_in _ (by omega)
          have w6 : (j : Int) + 1 < n := by omega
          clear hx hxU hst hbx hby hy' hys hown hh hmem
          by_cases hm' : y' + a < x
          · go_wp2_with fail
            go_region
            go_wp2_with fail
            go_roundg j
            case measure => omega
            case rel =>
              have em : min x (y' + a) = y' + a := by omega
              have hbs := bwd_step HX.out HYS.out
              rw [em] at hbs
              refine ⟨j, by omega, by omega, by go_num, ?_, ?_, (hB.setCell (p := ⟨g, j, none⟩) hg _).drew⟩
              · have h5 := (HST.out (y' + a)).1
                rw [set_back HX.out] at h5
                rw [hbs]; exact h5
              · rw [hbs]
                intro z hz
                rw [List.mem_cons] at hz
                rcases hz with rfl | hz
                · omega
                · exact HME.out z hz
          · go_wp2_with fail
            go_region
            go_wp2_with fail
            go_roundg j
            case measure => omega
            case rel =>
              have em : min x (y' + a) = x := by omega
              have hbs := bwd_step HX.out HYS.out
              rw [em] at hbs
              refine ⟨j, by omega, by omega, by go_num, ?_, ?_, (hB.setCell (p := ⟨g, j, none⟩) hg _).drew⟩
              · have h5 := (HST.out x).1
                rw [set_back HX.out] at h5
                rw [hbs]; exact h5
              · rw [hbs]
                intro z hz
                rw [List.mem_cons] at hz
                rcases hz with rfl | hz
                · omega
                · exact HME.out z hz

theorem fastOk_iff {x f a y : Int} {r s : List Int} (hb : bwd a (x :: r) = y :: s) : fastOk (x :: r) f a = (prof (x :: r) && (inr a 1 20 && (decide (0 ≤ f) && decide (f ≤ y)))) := by
  simp [fastOk, hb]
theorem impl_FastestUnder (A : Option Addr) (n c : Nat) (xs : List Int) (f a : Int) (w : World) (h : Rd w 1 A n (IV xs)) (hm : n ≤ 9223372036854775807) (hA : A = none → c = 0 ∧ n = 0) :
    Calls Try.prog 35 #[.slice A n c, .int .i64 f, .int .i64 a] w (RetSB w (fastR xs f a) (fastOk xs f a)) := by
  have hl := Lib.hid h.len
  rcases hp : prof xs with _ | _
  · have eO : fastOk xs f a = false := by simp [fastOk, hp]
    have eR : fastR xs f a = [] := by simp [fastR, eO]
    rw [eO, eR]
    clear eO eR hA
    go_enter Try.func35, Try.ntmps35
    go_wp2_with (go_at_call 16; refine (impl_IsProfile _ _ _ _ _ h hm).mono ?_; rintro e w' ⟨rfl, rfl⟩)
    go_ret2
    exact RetSB.nil (Below.refl _ _)
  · have hpl := prof_len hp
    obtain ⟨x, r, rfl⟩ : ∃ x r, xs = x :: r := by
      match xs, hpl with
      | x :: r, _ => exact ⟨x, r, rfl⟩
    obtain ⟨y, s, hb⟩ := bwd_ne a x r
    have hyx : y ≤ x := by have := bwd_le a (x :: r); rw [hb] at this; exact this.1
    have hx := prof_mem hp x (by simp)
    have eO := fastOk_iff (f := f) hb
    rw [hp] at eO
    simp only [Bool.true_and] at eO
    rcases hf : inr f 0 x with _ | _
    · have eO' : fastOk (x :: r) f a = false := by
        rw [eO]
        have : ¬ (0 ≤ f ∧ f ≤ x) := by simpa [inr] using hf
        by_cases h1 : 0 ≤ f
        · have h2 : ¬ f ≤ y := by omega
          simp [h1, h2]
        · simp [h1]
      have eR : fastR (x :: r) f a = [] := by simp [fastR, eO']
      rw [eO', eR]
      rw [h.len] at hpl
      obtain ⟨b0, off0, x0', rfl, hx0', hc0⟩ := h.at1 (k := 0) (by omega)
      obtain rfl : x = x0' := by simpa using hx0'
      simp only [Nat.add_zero] at hc0
      have hn0 : (0 : Int) < n := by omega
      clear eO' eR eO hA hx0'
      go_enter Try.func35, Try.ntmps35
      go_wp2_with (first | (go_at_call 16; refine (impl_IsProfile _ _ _ _ _ h hm).mono ?_; rintro e w' ⟨rfl, rfl⟩) | (go_at_call 56; refine (impl_within _ _ _ _).mono ?_; rintro e w' ⟨rfl, rfl⟩))
      go_ret2
      exact RetSB.nil (Below.refl _ _)
    · rcases ha : inr a 1 20 with _ | _
      · have eO' : fastOk (x :: r) f a = false := by rw [eO, ha]; rfl
        have eR : fastR (x :: r) f a = [] := by simp [fastR, eO']
        rw [eO', eR]
        rw [h.len] at hpl
        obtain ⟨b0, off0, x0', rfl, hx0', hc0⟩ := h.at1 (k := 0) (by omega)
        obtain rfl : x = x0' := by simpa using hx0'
        simp only [Nat.add_zero] at hc0
        have hn0 : (0 : Int) < n := by omega
        clear eO' eR eO hA hx0'
        go_enter Try.func35, Try.ntmps35
        go_wp2_with (first | (go_at_call 16; refine (impl_IsProfile _ _ _ _ _ h hm).mono ?_; rintro e w' ⟨rfl, rfl⟩) | (go_at_call 56; refine (impl_within _ _ _ _).mono ?_; rintro e w' ⟨rfl, rfl⟩) | (go_at_call 52; refine (impl_isAcceleration _ _).mono ?_; rintro e w' ⟨rfl, rfl⟩))
        go_ret2
        exact RetSB.nil (Below.refl _ _)
      · have hfb := inr_bd hf
        have hab := inr_bd ha
        refine (impl_Fastest_in A n c (x :: r) f a x w h hA hp rfl hf ha).mono ?_
        intro e w' hh
        by_cases hy : f ≤ y
        · obtain ⟨e1, e2, e3⟩ := fast_same (a := a) (by omega) hfb.2 hb hy
          have eO' : fastOk (x :: r) f a = true := by rw [eO, ha]; simp [hfb.1, hy]
          have eR : fastR (x :: r) f a = fS (x :: r) f a := by simp [fastR, eO']
          rw [eO', eR, ← e1]
          exact hh.1 (by rw [e1]; exact e2)
        · have hne := fast_not (a := a) (by omega) hfb.2 hb (by omega)
          have eO' : fastOk (x :: r) f a = false := by rw [eO, ha]; simp [hy]
          have eR : fastR (x :: r) f a = [] := by simp [fastR, eO']
          rw [eO', eR]
          exact hh.2 hne
end Go.Proofs.Ythhameglamemkaa
