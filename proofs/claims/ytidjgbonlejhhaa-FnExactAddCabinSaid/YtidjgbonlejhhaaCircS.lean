/- The circle: a cabin is put among the others (the reference's). -/
import Derived.Test.YtidjgbonlejhhaaCircR
import Derived.Deep.RegionLaw
namespace Go.Proofs.Ytidjgbonlejhhaa
open Go.RowKit
set_option linter.unusedVariables false
set_option linter.unusedSimpArgs false

/-- 'append(l, x...)' at a step of a region that draws its order: what has grown; the new list under a name. -/
theorem step_app_intsH {ops : Array Oper} {o : Oper} {a : Act} {K : Act → World → Prop} {Q : Exit → Act → World → Prop} {E : Prop} (hgd : o.guard = none) (s x : Operand)
    (ho : o.op = .call { callee := .builtin .append, args := #[s, x], argTypes := #[22, 22] }) (w : World) (B : Nat) (v : Value) (zs : List Int)
    (hs : a.eval s = v) (hown : Ow w B v zs) (A : Option Addr) (n c : Nat) (ys us : List Int) (m : Nat) (hus : zs ++ ys = us) (hum : us.length = m) (hx : a.eval x = .slice A n c) (hr : Rd w 1 A n (IV ys)) (hl : m < 1099511627776) (hB : B ≤ w.heap.size)
    (h : ∀ A' c' w', Ow w' B (.slice A' m c') us → w.grownBy w' v.ownBlock → Below B w w' → K (a.put o.dst (.slice A' m c')) w') :
    if Region.wanted o (yielded ops a.tmps) = true then Oper.wp Try.prog o a w K Q else E := by
  subst hus hum
  refine step_app_intsG hgd s x ho w B v zs hs hown A n c ys hx hr (by simpa using hl) hB ?_
  intro A' c' w' ho' hg
  exact h A' c' w' ho' hg (below_grown hown hg (Nat.le_refl _) hB)
theorem Ow.lit1I (w : World) (B g : Nat) (v : Int) (hB : B ≤ w.heap.size) (hg : g = w.heap.size) : Ow (w.alloc (.cells #[.int .i64 v] 3)) B (.slice (some ⟨g, 0, none⟩) 1 1) [v] := by
  subst hg
  exact Ow.lit w [v] (by simp [maxLen]) hB
set_option maxHeartbeats 2000000 in
theorem spec_l1Put (A : Option Addr) (n c : Nat) (zs : List Int) (p : Int) (wo : World) (h : Rd wo 1 A n (IV zs)) (hm : n ≤ 1048576) (hnc : n ≤ c) (hcm : c ≤ 9223372036854775807) (hA : (A = none ∧ c = 0) ∨ ∃ b off, A = some ⟨b, off, none⟩) :
    Calls Try.prog 71 #[.slice A n c, .int .i64 p] wo fun e w' => ∃ A' n' c', e = .returned (.slice A' n' c') ∧ n' ≤ n + 1 ∧ Rd w' 1 A' n' (IV (putZ p zs)) ∧ Below wo.heap.size wo w' := by
  have hl := Lib.hid h.len
  go_enter Try.func71, Try.ntmps71
  go_wp2
  go_loopg [5] n (fun g i wr => ∃ k : Nat, k ≤ n ∧ n ≤ k + g ∧ i = .int .i64 k ∧ wo = wr ∧ Hid (zs.take k ++ putZ p (zs.drop k) = putZ p zs))
  case atStart => exact ⟨0, by omega, by omega, rfl, rfl, by simp [Hid]⟩
  case round =>
    obtain ⟨k, hk1, hk2, rfl, rfl, ha⟩ := hrel
    by_cases hlt : k < n
    · obtain ⟨b, off, x, rfl, hx, hcx⟩ := h.at1 hlt
      have HX := Lib.hid hx
      clear hx
      have g0 : (0 : Int) ≤ (k : Int) := by omega
      have g1 : (k : Int) ≤ (n : Int) := by omega
      have g2 : (k : Int) ≤ (c : Int) := by omega
      have g3 : (n : Int) ≤ (c : Int) := by omega
      rcases Int.lt_trichotomy x p with hp | hp | hp
      · have HQ : Hid (zs.take (k + 1) ++ putZ p (zs.drop (k + 1)) = putZ p zs) := (show _ = _ by rw [← ha.out, put_step HX.out hp])
        go_wp2_with fail
        all_goals go_roundg (n - (k + 1))
        all_goals first | omega | exact ⟨k + 1, by omega, by omega, by go_num, rfl, HQ.out⟩
      · subst hp
        go_wp2_with fail
        go_ret
        exact ⟨_, n, c, rfl, by omega, by rw [← ha.out, put_eq HX.out]; exact h, Below.refl _ _⟩
      · have hp1 : ¬ x < p := by omega
        have hp2 : ¬ x = p := by omega
        have hp3 : (x == p) = false := by simp; omega
        have ht := takeZ h (k := k) (by omega)
        obtain ⟨A2, hA2, hd⟩ := cutZ_addr (c := c) h (k := k) (by omega) hnc
        have HZ : Hid (putZ p zs = zs.take k ++ [p] ++ zs.drop k) := (show _ = _ by rw [← ha.out, put_in HX.out hp])
        by_cases hcj : c = k
        · omega
        · rw [if_neg hcj] at hA2
          subst hA2
          have b1 : Below wo.heap.size wo (wo.alloc (.cells #[] 3)).drew := ((Below.refl _ _).alloc (Nat.le_refl _) _).drew
          have b2 : Below wo.heap.size wo ((wo.alloc (.cells #[] 3)).alloc (.cells #[.int .i64 p] 3)).drew := (((Below.refl _ _).alloc (Nat.le_refl _) _).alloc (by simp) _).drew
          have b3 : Below wo.heap.size wo ((wo.alloc (.cells #[.int .i64 p] 3)).alloc (.cells #[] 3)).drew := (((Below.refl _ _).alloc (Nat.le_refl _) _).alloc (by simp) _).drew
          have o1 : Ow (wo.alloc (.cells #[] 3)).drew wo.heap.size (.slice (some ⟨wo.heap.size, 0, none⟩) 0 0) [] := (Ow.lit0' wo wo.heap.size wo.heap.size (Nat.le_refl _) rfl).drew
          have o2 : Ow ((wo.alloc (.cells #[] 3)).alloc (.cells #[.int .i64 p] 3)).drew wo.heap.size (.slice (some ⟨wo.heap.size, 0, none⟩) 0 0) [] := ((Ow.lit0' wo wo.heap.size wo.heap.size (Nat.le_refl _) rfl).alloc _).drew
          have o3 : Ow ((wo.alloc (.cells #[.int .i64 p] 3)).alloc (.cells #[] 3)).drew wo.heap.size (.slice (some ⟨wo.heap.size + 1, 0, none⟩) 0 0) [] := (Ow.lit0' (wo.alloc (.cells #[.int .i64 p] 3)) wo.heap.size (wo.heap.size + 1) (by simp) (by simp)).drew
          have q2 : Ow ((wo.alloc (.cells #[] 3)).alloc (.cells #[.int .i64 p] 3)).drew (wo.heap.size + 1) (.slice (some ⟨wo.heap.size + 1, 0, none⟩) 1 1) [p] := (Ow.lit1I (wo.alloc (.cells #[] 3)) (wo.heap.size + 1) (wo.heap.size + 1) p (by simp) (by simp)).drew
          have q3 : Ow ((wo.alloc (.cells #[.int .i64 p] 3)).alloc (.cells #[] 3)).drew wo.heap.size (.slice (some ⟨wo.heap.size, 0, none⟩) 1 1) [p] := ((Ow.lit1I wo wo.heap.size wo.heap.size p (Nat.le_refl _) rfl).alloc _).drew
          have e1 : ([] : List Int) ++ zs.take k = zs.take k := rfl
          have m1 : (zs.take k).length = k := by have := hl.out; rw [List.length_take]; omega
          have m2 : (zs.take k ++ [p]).length = k + 1 := by rw [List.length_append, m1]; rfl
          have m3 : (zs.take k ++ [p] ++ zs.drop k).length = n + 1 := by have := hl.out; rw [List.length_append, m2, List.length_drop]; omega
          have n2 : ∀ j, (Value.slice (some ⟨wo.heap.size, 0, none⟩) 0 0).ownBlock = some j → j < wo.heap.size + 1 := by intro j hj; simp [Value.ownBlock] at hj; omega
          have n3 : ∀ j, (Value.slice (some ⟨wo.heap.size, 0, none⟩) 1 1).ownBlock = some j → j < wo.heap.size + 1 := by intro j hj; simp [Value.ownBlock] at hj; omega
          have n4 : ∀ j, (Value.slice (some ⟨wo.heap.size + 1, 0, none⟩) 0 0).ownBlock = some j → wo.heap.size + 1 ≤ j := by intro j hj; simp [Value.ownBlock] at hj; omega
          have s1 : k < 1099511627776 := by omega
          have s2 : k + 1 < 1099511627776 := by omega
          have s3 : n + 1 < 1099511627776 := by omega
          go_wp2_with fail
          go_region_law (first | (refine step_app_intsH (by rfl) (.tmp 33) (.tmp 36) (by rfl) (wo.alloc (.cells #[] 3)).drew wo.heap.size _ [] rfl o1 _ _ _ (zs.take k) (zs.take k) k e1 m1 rfl (ht.below b1) s1 b1.size ?_; intro A1 c1 w1 ho1 hg1 hb1; have HO1 := Lib.hid ho1; have HB1 := Lib.hid (b1.trans hb1); clear ho1 hg1 hb1) | (refine step_app_intsH (by rfl) (.tmp 33) (.tmp 36) (by rfl) ((wo.alloc (.cells #[] 3)).alloc (.cells #[.int .i64 p] 3)).drew wo.heap.size _ [] rfl o2 _ _ _ (zs.take k) (zs.take k) k e1 m1 rfl (ht.below b2) s1 b2.size ?_; intro A1 c1 w1 ho1 hg1 hb1; have HO1 := Lib.hid ho1; have HB1 := Lib.hid (b2.trans hb1); have HP := Lib.hid (q2.other hg1 n2); clear ho1 hg1 hb1) | (refine step_app_intsH (by rfl) (.tmp 33) (.tmp 36) (by rfl) ((wo.alloc (.cells #[.int .i64 p] 3)).alloc (.cells #[] 3)).drew wo.heap.size _ [] rfl o3 _ _ _ (zs.take k) (zs.take k) k e1 m1 rfl (ht.below b3) s1 b3.size ?_; intro A1 c1 w1 ho1 hg1 hb1; have HO1 := Lib.hid ho1; have HB1 := Lib.hid (b3.trans hb1); have HP := Lib.hid (q3.other2 hg1 n3 n4); clear ho1 hg1 hb1) | (have HB := Lib.hid (HB1.out.alloc (HB1.out.size) (.cells #[.int .i64 p] 3)); refine step_app_intsH (by rfl) (.tmp 37) (.tmp 39) (by rfl) (w1.alloc (.cells #[.int .i64 p] 3)) wo.heap.size _ (zs.take k) rfl (HO1.out.alloc _) _ _ _ [p] (zs.take k ++ [p]) (k + 1) rfl m2 rfl (rd_one w1 p) s2 HB.out.size ?_; intro A2 c2 w2 ho2 hg2 hb2; have HO2 := Lib.hid ho2; have HB2 := Lib.hid (HB.out.trans hb2); clear ho2 hg2 hb2) | (have HB := HB1; refine step_app_intsH (by rfl) (.tmp 37) (.tmp 39) (by rfl) w1 wo.heap.size _ (zs.take k) rfl HO1.out _ _ _ [p] (zs.take k ++ [p]) (k + 1) rfl m2 rfl HP.out.rd s2 HB1.out.size ?_; intro A2 c2 w2 ho2 hg2 hb2; have HO2 := Lib.hid ho2; have HB2 := Lib.hid (HB.out.trans hb2); clear ho2 hg2 hb2) | (refine step_app_intsH (by rfl) (.tmp 40) (.tmp 43) (by rfl) w2 wo.heap.size _ (zs.take k ++ [p]) rfl HO2.out _ _ _ (zs.drop k) (zs.take k ++ [p] ++ zs.drop k) (n + 1) rfl m3 rfl (hd.below HB2.out) s3 HB2.out.size ?_; intro A3 c3 w3 ho3 hg3 hb3; have HO3 := Lib.hid ho3; have HB3 := Lib.hid (HB2.out.trans hb3); clear ho3 hg3 hb3))
          all_goals go_wp2_with fail
          all_goals go_ret
          all_goals exact ⟨_, n + 1, _, rfl, Nat.le_refl _, by rw [HZ.out]; exact HO3.out.rd, HB3.out⟩
    · have hkn : k = n := by omega
      subst hkn
      have HZ : Hid (putZ p zs = zs.take k ++ [p] ++ zs.drop k) := (show _ = _ by rw [← ha.out, put_end hl.out])
      have gk1 : ¬ ((k : Int) < (k : Int)) := by omega
      have ht := takeZ h (k := k) (by omega)
      have g0 : (0 : Int) ≤ (k : Int) := by omega
      have g2 : (k : Int) ≤ (c : Int) := by omega
      have g4 : (k : Int) ≤ (k : Int) := by omega
      clear ha
      rcases hA with ⟨rfl, hc⟩ | ⟨b, off, rfl⟩
      · obtain rfl : k = 0 := by omega
        subst hc
        have hd : Rd wo 1 none 0 (IV (zs.drop 0)) := h
        have b1 : Below wo.heap.size wo (wo.alloc (.cells #[] 3)).drew := ((Below.refl _ _).alloc (Nat.le_refl _) _).drew
        have b2 : Below wo.heap.size wo ((wo.alloc (.cells #[] 3)).alloc (.cells #[.int .i64 p] 3)).drew := (((Below.refl _ _).alloc (Nat.le_refl _) _).alloc (by simp) _).drew
        have b3 : Below wo.heap.size wo ((wo.alloc (.cells #[.int .i64 p] 3)).alloc (.cells #[] 3)).drew := (((Below.refl _ _).alloc (Nat.le_refl _) _).alloc (by simp) _).drew
        have o1 : Ow (wo.alloc (.cells #[] 3)).drew wo.heap.size (.slice (some ⟨wo.heap.size, 0, none⟩) 0 0) [] := (Ow.lit0' wo wo.heap.size wo.heap.size (Nat.le_refl _) rfl).drew
        have o2 : Ow ((wo.alloc (.cells #[] 3)).alloc (.cells #[.int .i64 p] 3)).drew wo.heap.size (.slice (some ⟨wo.heap.size, 0, none⟩) 0 0) [] := ((Ow.lit0' wo wo.heap.size wo.heap.size (Nat.le_refl _) rfl).alloc _).drew
        have o3 : Ow ((wo.alloc (.cells #[.int .i64 p] 3)).alloc (.cells #[] 3)).drew wo.heap.size (.slice (some ⟨wo.heap.size + 1, 0, none⟩) 0 0) [] := (Ow.lit0' (wo.alloc (.cells #[.int .i64 p] 3)) wo.heap.size (wo.heap.size + 1) (by simp) (by simp)).drew
        have q2 : Ow ((wo.alloc (.cells #[] 3)).alloc (.cells #[.int .i64 p] 3)).drew (wo.heap.size + 1) (.slice (some ⟨wo.heap.size + 1, 0, none⟩) 1 1) [p] := (Ow.lit1I (wo.alloc (.cells #[] 3)) (wo.heap.size + 1) (wo.heap.size + 1) p (by simp) (by simp)).drew
        have q3 : Ow ((wo.alloc (.cells #[.int .i64 p] 3)).alloc (.cells #[] 3)).drew wo.heap.size (.slice (some ⟨wo.heap.size, 0, none⟩) 1 1) [p] := ((Ow.lit1I wo wo.heap.size wo.heap.size p (Nat.le_refl _) rfl).alloc _).drew
        have e1 : ([] : List Int) ++ zs.take 0 = zs.take 0 := rfl
        have m1 : (zs.take 0).length = 0 := by have := hl.out; rw [List.length_take]; omega
        have m2 : (zs.take 0 ++ [p]).length = 0 + 1 := by rw [List.length_append, m1]; rfl
        have m3 : (zs.take 0 ++ [p] ++ zs.drop 0).length = 0 + 1 := by have := hl.out; rw [List.length_append, m2, List.length_drop]; omega
        have n2 : ∀ j, (Value.slice (some ⟨wo.heap.size, 0, none⟩) 0 0).ownBlock = some j → j < wo.heap.size + 1 := by intro j hj; simp [Value.ownBlock] at hj; omega
        have n3 : ∀ j, (Value.slice (some ⟨wo.heap.size, 0, none⟩) 1 1).ownBlock = some j → j < wo.heap.size + 1 := by intro j hj; simp [Value.ownBlock] at hj; omega
        have n4 : ∀ j, (Value.slice (some ⟨wo.heap.size + 1, 0, none⟩) 0 0).ownBlock = some j → wo.heap.size + 1 ≤ j := by intro j hj; simp [Value.ownBlock] at hj; omega
        have s1 : 0 < 1099511627776 := by omega
        have s2 : 0 + 1 < 1099511627776 := by omega
        have s3 : 0 + 1 < 1099511627776 := by omega
        go_wp2_with fail
        go_region_law (first | (refine step_app_intsH (by rfl) (.tmp 33) (.tmp 36) (by rfl) (wo.alloc (.cells #[] 3)).drew wo.heap.size _ [] rfl o1 _ _ _ (zs.take 0) (zs.take 0) 0 e1 m1 rfl (ht.below b1) s1 b1.size ?_; intro A1 c1 w1 ho1 hg1 hb1; have HO1 := Lib.hid ho1; have HB1 := Lib.hid (b1.trans hb1); clear ho1 hg1 hb1) | (refine step_app_intsH (by rfl) (.tmp 33) (.tmp 36) (by rfl) ((wo.alloc (.cells #[] 3)).alloc (.cells #[.int .i64 p] 3)).drew wo.heap.size _ [] rfl o2 _ _ _ (zs.take 0) (zs.take 0) 0 e1 m1 rfl (ht.below b2) s1 b2.size ?_; intro A1 c1 w1 ho1 hg1 hb1; have HO1 := Lib.hid ho1; have HB1 := Lib.hid (b2.trans hb1); have HP := Lib.hid (q2.other hg1 n2); clear ho1 hg1 hb1) | (refine step_app_intsH (by rfl) (.tmp 33) (.tmp 36) (by rfl) ((wo.alloc (.cells #[.int .i64 p] 3)).alloc (.cells #[] 3)).drew wo.heap.size _ [] rfl o3 _ _ _ (zs.take 0) (zs.take 0) 0 e1 m1 rfl (ht.below b3) s1 b3.size ?_; intro A1 c1 w1 ho1 hg1 hb1; have HO1 := Lib.hid ho1; have HB1 := Lib.hid (b3.trans hb1); have HP := Lib.hid (q3.other2 hg1 n3 n4); clear ho1 hg1 hb1) | (have HB := Lib.hid (HB1.out.alloc (HB1.out.size) (.cells #[.int .i64 p] 3)); refine step_app_intsH (by rfl) (.tmp 37) (.tmp 39) (by rfl) (w1.alloc (.cells #[.int .i64 p] 3)) wo.heap.size _ (zs.take 0) rfl (HO1.out.alloc _) _ _ _ [p] (zs.take 0 ++ [p]) (0 + 1) rfl m2 rfl (rd_one w1 p) s2 HB.out.size ?_; intro A2 c2 w2 ho2 hg2 hb2; have HO2 := Lib.hid ho2; have HB2 := Lib.hid (HB.out.trans hb2); clear ho2 hg2 hb2) | (have HB := HB1; refine step_app_intsH (by rfl) (.tmp 37) (.tmp 39) (by rfl) w1 wo.heap.size _ (zs.take 0) rfl HO1.out _ _ _ [p] (zs.take 0 ++ [p]) (0 + 1) rfl m2 rfl HP.out.rd s2 HB1.out.size ?_; intro A2 c2 w2 ho2 hg2 hb2; have HO2 := Lib.hid ho2; have HB2 := Lib.hid (HB.out.trans hb2); clear ho2 hg2 hb2) | (refine step_app_intsH (by rfl) (.tmp 40) (.tmp 43) (by rfl) w2 wo.heap.size _ (zs.take 0 ++ [p]) rfl HO2.out _ _ _ (zs.drop 0) (zs.take 0 ++ [p] ++ zs.drop 0) (0 + 1) rfl m3 rfl (hd.below HB2.out) s3 HB2.out.size ?_; intro A3 c3 w3 ho3 hg3 hb3; have HO3 := Lib.hid ho3; have HB3 := Lib.hid (HB2.out.trans hb3); clear ho3 hg3 hb3))
        all_goals go_wp2_with fail
        all_goals go_ret
        all_goals exact ⟨_, 0 + 1, _, rfl, Nat.le_refl _, by rw [HZ.out]; exact HO3.out.rd, HB3.out⟩
      · obtain ⟨A2, hA2, hd⟩ := cutZ_addr (c := c) h (k := k) (by omega) hnc
        rw [Nat.sub_self] at hd
        by_cases hcj : c = k
        · rw [if_pos hcj] at hA2
          subst hA2 hcj
          have b1 : Below wo.heap.size wo (wo.alloc (.cells #[] 3)).drew := ((Below.refl _ _).alloc (Nat.le_refl _) _).drew
          have b2 : Below wo.heap.size wo ((wo.alloc (.cells #[] 3)).alloc (.cells #[.int .i64 p] 3)).drew := (((Below.refl _ _).alloc (Nat.le_refl _) _).alloc (by simp) _).drew
          have b3 : Below wo.heap.size wo ((wo.alloc (.cells #[.int .i64 p] 3)).alloc (.cells #[] 3)).drew := (((Below.refl _ _).alloc (Nat.le_refl _) _).alloc (by simp) _).drew
          have o1 : Ow (wo.alloc (.cells #[] 3)).drew wo.heap.size (.slice (some ⟨wo.heap.size, 0, none⟩) 0 0) [] := (Ow.lit0' wo wo.heap.size wo.heap.size (Nat.le_refl _) rfl).drew
          have o2 : Ow ((wo.alloc (.cells #[] 3)).alloc (.cells #[.int .i64 p] 3)).drew wo.heap.size (.slice (some ⟨wo.heap.size, 0, none⟩) 0 0) [] := ((Ow.lit0' wo wo.heap.size wo.heap.size (Nat.le_refl _) rfl).alloc _).drew
          have o3 : Ow ((wo.alloc (.cells #[.int .i64 p] 3)).alloc (.cells #[] 3)).drew wo.heap.size (.slice (some ⟨wo.heap.size + 1, 0, none⟩) 0 0) [] := (Ow.lit0' (wo.alloc (.cells #[.int .i64 p] 3)) wo.heap.size (wo.heap.size + 1) (by simp) (by simp)).drew
          have q2 : Ow ((wo.alloc (.cells #[] 3)).alloc (.cells #[.int .i64 p] 3)).drew (wo.heap.size + 1) (.slice (some ⟨wo.heap.size + 1, 0, none⟩) 1 1) [p] := (Ow.lit1I (wo.alloc (.cells #[] 3)) (wo.heap.size + 1) (wo.heap.size + 1) p (by simp) (by simp)).drew
          have q3 : Ow ((wo.alloc (.cells #[.int .i64 p] 3)).alloc (.cells #[] 3)).drew wo.heap.size (.slice (some ⟨wo.heap.size, 0, none⟩) 1 1) [p] := ((Ow.lit1I wo wo.heap.size wo.heap.size p (Nat.le_refl _) rfl).alloc _).drew
          have e1 : ([] : List Int) ++ zs.take c = zs.take c := rfl
          have m1 : (zs.take c).length = c := by have := hl.out; rw [List.length_take]; omega
          have m2 : (zs.take c ++ [p]).length = c + 1 := by rw [List.length_append, m1]; rfl
          have m3 : (zs.take c ++ [p] ++ zs.drop c).length = c + 1 := by have := hl.out; rw [List.length_append, m2, List.length_drop]; omega
          have n2 : ∀ j, (Value.slice (some ⟨wo.heap.size, 0, none⟩) 0 0).ownBlock = some j → j < wo.heap.size + 1 := by intro j hj; simp [Value.ownBlock] at hj; omega
          have n3 : ∀ j, (Value.slice (some ⟨wo.heap.size, 0, none⟩) 1 1).ownBlock = some j → j < wo.heap.size + 1 := by intro j hj; simp [Value.ownBlock] at hj; omega
          have n4 : ∀ j, (Value.slice (some ⟨wo.heap.size + 1, 0, none⟩) 0 0).ownBlock = some j → wo.heap.size + 1 ≤ j := by intro j hj; simp [Value.ownBlock] at hj; omega
          have s1 : c < 1099511627776 := by omega
          have s2 : c + 1 < 1099511627776 := by omega
          have s3 : c + 1 < 1099511627776 := by omega
          go_wp2_with fail
          go_region_law (first | (refine step_app_intsH (by rfl) (.tmp 33) (.tmp 36) (by rfl) (wo.alloc (.cells #[] 3)).drew wo.heap.size _ [] rfl o1 _ _ _ (zs.take c) (zs.take c) c e1 m1 rfl (ht.below b1) s1 b1.size ?_; intro A1 c1 w1 ho1 hg1 hb1; have HO1 := Lib.hid ho1; have HB1 := Lib.hid (b1.trans hb1); clear ho1 hg1 hb1) | (refine step_app_intsH (by rfl) (.tmp 33) (.tmp 36) (by rfl) ((wo.alloc (.cells #[] 3)).alloc (.cells #[.int .i64 p] 3)).drew wo.heap.size _ [] rfl o2 _ _ _ (zs.take c) (zs.take c) c e1 m1 rfl (ht.below b2) s1 b2.size ?_; intro A1 c1 w1 ho1 hg1 hb1; have HO1 := Lib.hid ho1; have HB1 := Lib.hid (b2.trans hb1); have HP := Lib.hid (q2.other hg1 n2); clear ho1 hg1 hb1) | (refine step_app_intsH (by rfl) (.tmp 33) (.tmp 36) (by rfl) ((wo.alloc (.cells #[.int .i64 p] 3)).alloc (.cells #[] 3)).drew wo.heap.size _ [] rfl o3 _ _ _ (zs.take c) (zs.take c) c e1 m1 rfl (ht.below b3) s1 b3.size ?_; intro A1 c1 w1 ho1 hg1 hb1; have HO1 := Lib.hid ho1; have HB1 := Lib.hid (b3.trans hb1); have HP := Lib.hid (q3.other2 hg1 n3 n4); clear ho1 hg1 hb1) | (have HB := Lib.hid (HB1.out.alloc (HB1.out.size) (.cells #[.int .i64 p] 3)); refine step_app_intsH (by rfl) (.tmp 37) (.tmp 39) (by rfl) (w1.alloc (.cells #[.int .i64 p] 3)) wo.heap.size _ (zs.take c) rfl (HO1.out.alloc _) _ _ _ [p] (zs.take c ++ [p]) (c + 1) rfl m2 rfl (rd_one w1 p) s2 HB.out.size ?_; intro A2 c2 w2 ho2 hg2 hb2; have HO2 := Lib.hid ho2; have HB2 := Lib.hid (HB.out.trans hb2); clear ho2 hg2 hb2) | (have HB := HB1; refine step_app_intsH (by rfl) (.tmp 37) (.tmp 39) (by rfl) w1 wo.heap.size _ (zs.take c) rfl HO1.out _ _ _ [p] (zs.take c ++ [p]) (c + 1) rfl m2 rfl HP.out.rd s2 HB1.out.size ?_; intro A2 c2 w2 ho2 hg2 hb2; have HO2 := Lib.hid ho2; have HB2 := Lib.hid (HB.out.trans hb2); clear ho2 hg2 hb2) | (refine step_app_intsH (by rfl) (.tmp 40) (.tmp 43) (by rfl) w2 wo.heap.size _ (zs.take c ++ [p]) rfl HO2.out _ _ _ (zs.drop c) (zs.take c ++ [p] ++ zs.drop c) (c + 1) rfl m3 rfl (hd.below HB2.out) s3 HB2.out.size ?_; intro A3 c3 w3 ho3 hg3 hb3; have HO3 := Lib.hid ho3; have HB3 := Lib.hid (HB2.out.trans hb3); clear ho3 hg3 hb3))
          all_goals go_wp2_with fail
          all_goals go_ret
          all_goals exact ⟨_, c + 1, _, rfl, Nat.le_refl _, by rw [HZ.out]; exact HO3.out.rd, HB3.out⟩
        · rw [if_neg hcj] at hA2
          subst hA2
          have b1 : Below wo.heap.size wo (wo.alloc (.cells #[] 3)).drew := ((Below.refl _ _).alloc (Nat.le_refl _) _).drew
          have b2 : Below wo.heap.size wo ((wo.alloc (.cells #[] 3)).alloc (.cells #[.int .i64 p] 3)).drew := (((Below.refl _ _).alloc (Nat.le_refl _) _).alloc (by simp) _).drew
          have b3 : Below wo.heap.size wo ((wo.alloc (.cells #[.int .i64 p] 3)).alloc (.cells #[] 3)).drew := (((Below.refl _ _).alloc (Nat.le_refl _) _).alloc (by simp) _).drew
          have o1 : Ow (wo.alloc (.cells #[] 3)).drew wo.heap.size (.slice (some ⟨wo.heap.size, 0, none⟩) 0 0) [] := (Ow.lit0' wo wo.heap.size wo.heap.size (Nat.le_refl _) rfl).drew
          have o2 : Ow ((wo.alloc (.cells #[] 3)).alloc (.cells #[.int .i64 p] 3)).drew wo.heap.size (.slice (some ⟨wo.heap.size, 0, none⟩) 0 0) [] := ((Ow.lit0' wo wo.heap.size wo.heap.size (Nat.le_refl _) rfl).alloc _).drew
          have o3 : Ow ((wo.alloc (.cells #[.int .i64 p] 3)).alloc (.cells #[] 3)).drew wo.heap.size (.slice (some ⟨wo.heap.size + 1, 0, none⟩) 0 0) [] := (Ow.lit0' (wo.alloc (.cells #[.int .i64 p] 3)) wo.heap.size (wo.heap.size + 1) (by simp) (by simp)).drew
          have q2 : Ow ((wo.alloc (.cells #[] 3)).alloc (.cells #[.int .i64 p] 3)).drew (wo.heap.size + 1) (.slice (some ⟨wo.heap.size + 1, 0, none⟩) 1 1) [p] := (Ow.lit1I (wo.alloc (.cells #[] 3)) (wo.heap.size + 1) (wo.heap.size + 1) p (by simp) (by simp)).drew
          have q3 : Ow ((wo.alloc (.cells #[.int .i64 p] 3)).alloc (.cells #[] 3)).drew wo.heap.size (.slice (some ⟨wo.heap.size, 0, none⟩) 1 1) [p] := ((Ow.lit1I wo wo.heap.size wo.heap.size p (Nat.le_refl _) rfl).alloc _).drew
          have e1 : ([] : List Int) ++ zs.take k = zs.take k := rfl
          have m1 : (zs.take k).length = k := by have := hl.out; rw [List.length_take]; omega
          have m2 : (zs.take k ++ [p]).length = k + 1 := by rw [List.length_append, m1]; rfl
          have m3 : (zs.take k ++ [p] ++ zs.drop k).length = k + 1 := by have := hl.out; rw [List.length_append, m2, List.length_drop]; omega
          have n2 : ∀ j, (Value.slice (some ⟨wo.heap.size, 0, none⟩) 0 0).ownBlock = some j → j < wo.heap.size + 1 := by intro j hj; simp [Value.ownBlock] at hj; omega
          have n3 : ∀ j, (Value.slice (some ⟨wo.heap.size, 0, none⟩) 1 1).ownBlock = some j → j < wo.heap.size + 1 := by intro j hj; simp [Value.ownBlock] at hj; omega
          have n4 : ∀ j, (Value.slice (some ⟨wo.heap.size + 1, 0, none⟩) 0 0).ownBlock = some j → wo.heap.size + 1 ≤ j := by intro j hj; simp [Value.ownBlock] at hj; omega
          have s1 : k < 1099511627776 := by omega
          have s2 : k + 1 < 1099511627776 := by omega
          have s3 : k + 1 < 1099511627776 := by omega
          go_wp2_with fail
          go_region_law (first | (refine step_app_intsH (by rfl) (.tmp 33) (.tmp 36) (by rfl) (wo.alloc (.cells #[] 3)).drew wo.heap.size _ [] rfl o1 _ _ _ (zs.take k) (zs.take k) k e1 m1 rfl (ht.below b1) s1 b1.size ?_; intro A1 c1 w1 ho1 hg1 hb1; have HO1 := Lib.hid ho1; have HB1 := Lib.hid (b1.trans hb1); clear ho1 hg1 hb1) | (refine step_app_intsH (by rfl) (.tmp 33) (.tmp 36) (by rfl) ((wo.alloc (.cells #[] 3)).alloc (.cells #[.int .i64 p] 3)).drew wo.heap.size _ [] rfl o2 _ _ _ (zs.take k) (zs.take k) k e1 m1 rfl (ht.below b2) s1 b2.size ?_; intro A1 c1 w1 ho1 hg1 hb1; have HO1 := Lib.hid ho1; have HB1 := Lib.hid (b2.trans hb1); have HP := Lib.hid (q2.other hg1 n2); clear ho1 hg1 hb1) | (refine step_app_intsH (by rfl) (.tmp 33) (.tmp 36) (by rfl) ((wo.alloc (.cells #[.int .i64 p] 3)).alloc (.cells #[] 3)).drew wo.heap.size _ [] rfl o3 _ _ _ (zs.take k) (zs.take k) k e1 m1 rfl (ht.below b3) s1 b3.size ?_; intro A1 c1 w1 ho1 hg1 hb1; have HO1 := Lib.hid ho1; have HB1 := Lib.hid (b3.trans hb1); have HP := Lib.hid (q3.other2 hg1 n3 n4); clear ho1 hg1 hb1) | (have HB := Lib.hid (HB1.out.alloc (HB1.out.size) (.cells #[.int .i64 p] 3)); refine step_app_intsH (by rfl) (.tmp 37) (.tmp 39) (by rfl) (w1.alloc (.cells #[.int .i64 p] 3)) wo.heap.size _ (zs.take k) rfl (HO1.out.alloc _) _ _ _ [p] (zs.take k ++ [p]) (k + 1) rfl m2 rfl (rd_one w1 p) s2 HB.out.size ?_; intro A2 c2 w2 ho2 hg2 hb2; have HO2 := Lib.hid ho2; have HB2 := Lib.hid (HB.out.trans hb2); clear ho2 hg2 hb2) | (have HB := HB1; refine step_app_intsH (by rfl) (.tmp 37) (.tmp 39) (by rfl) w1 wo.heap.size _ (zs.take k) rfl HO1.out _ _ _ [p] (zs.take k ++ [p]) (k + 1) rfl m2 rfl HP.out.rd s2 HB1.out.size ?_; intro A2 c2 w2 ho2 hg2 hb2; have HO2 := Lib.hid ho2; have HB2 := Lib.hid (HB.out.trans hb2); clear ho2 hg2 hb2) | (refine step_app_intsH (by rfl) (.tmp 40) (.tmp 43) (by rfl) w2 wo.heap.size _ (zs.take k ++ [p]) rfl HO2.out _ _ _ (zs.drop k) (zs.take k ++ [p] ++ zs.drop k) (k + 1) rfl m3 rfl (hd.below HB2.out) s3 HB2.out.size ?_; intro A3 c3 w3 ho3 hg3 hb3; have HO3 := Lib.hid ho3; have HB3 := Lib.hid (HB2.out.trans hb3); clear ho3 hg3 hb3))
          all_goals go_wp2_with fail
          all_goals go_ret
          all_goals exact ⟨_, k + 1, _, rfl, Nat.le_refl _, by rw [HZ.out]; exact HO3.out.rd, HB3.out⟩
end Go.Proofs.Ytidjgbonlejhhaa
