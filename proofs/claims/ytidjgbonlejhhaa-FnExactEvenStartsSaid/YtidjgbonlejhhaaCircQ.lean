/- The circle: even starts, the reference's. -/
import Derived.Test.YtidjgbonlejhhaaCircP
namespace Go.Proofs.Ytidjgbonlejhhaa
open Go.RowKit
set_option linter.unusedVariables false
set_option linter.unusedSimpArgs false

def evG (len : Int) (C : Nat) (i : Nat) : Int := IntKind.i64.wrap ((IntKind.i64.wrap ((i : Int) * len)).tdiv (C : Int))
def evGZ (len : Int) (C k : Nat) : List Int := (List.range k).map (evG len C)
theorem evGZ_len (len : Int) (C k : Nat) : (evGZ len C k).length = k := by simp [evGZ]
theorem evGZ_next (len : Int) (C k : Nat) : evGZ len C (k + 1) = evGZ len C k ++ [evG len C k] := by simp [evGZ, List.range_succ]
theorem evG_in {len : Int} {C i : Nat} (h : inr len 10 4000 = true) (hC : C ≤ 12) (hi : i < C) : evG len C i = evF len C i := by
  have hl := inr_iff0.1 h
  have p0 : 0 ≤ (i : Int) * len := Int.mul_nonneg (by omega) (by omega)
  have p1 : (i : Int) * len ≤ 48000 := by
    have h1 := Int.mul_le_mul_of_nonneg_right (a := (i : Int)) (b := 12) (c := len) (by omega) (by omega)
    omega
  have q0 := Int.ediv_nonneg p0 (show 0 ≤ (C : Int) by omega)
  have q1 := Int.ediv_le_self (C : Int) p0
  unfold evG evF
  rw [IntWalk.i64_in ((i : Int) * len) (by omega), Int.tdiv_eq_ediv_of_nonneg p0, IntWalk.i64_in ((i : Int) * len / (C : Int)) (by omega)]
theorem evGZ_in {len : Int} {C : Nat} (h : inr len 10 4000 = true) (hC : C ≤ 12) : evGZ len C C = evZ len C C := by
  unfold evGZ evZ
  refine List.map_congr_left fun i hi => evG_in h hC (by simpa using hi)
theorem evG_ok {len speed : Int} {C : Nat} (hC : C ≤ 12) : evenOk len speed C = circOk len speed (evGZ len C C) := by
  unfold evenOk
  have h2 : inr (C : Int) 0 12 = true := inr_iff0.2 ⟨by omega, by omega⟩
  rw [h2]
  rcases h : inr len 10 4000 with _ | _
  · simp [circOk, h]
  · rw [evGZ_in h hC]; simp
theorem evG_v {len speed : Int} {C : Nat} (hC : C ≤ 12) (h : evenOk len speed C = true) : evenV len speed C = evGZ len C C := by
  unfold evenV
  rw [if_pos h, evGZ_in (by simp only [evenOk, Bool.and_eq_true] at h; exact h.1) hC]; simp
theorem three_blks (wo : World) (x0 x1 x2 y0 y1 y2 : Value) (t : TypeId) :
    Blk (((wo.alloc (.cells #[x0, x1, x2] t)).alloc (.cells #[] 3)).alloc (.cells #[y0, y1, y2] t)) wo.heap.size t #[x0, x1, x2] ∧ Blk (((wo.alloc (.cells #[x0, x1, x2] t)).alloc (.cells #[] 3)).alloc (.cells #[y0, y1, y2] t)) (wo.heap.size + 2) t #[y0, y1, y2] ∧ Ow (((wo.alloc (.cells #[x0, x1, x2] t)).alloc (.cells #[] 3)).alloc (.cells #[y0, y1, y2] t)) wo.heap.size (.slice (some ⟨wo.heap.size + 1, 0, none⟩) 0 0) [] := by
  refine ⟨((Blk.new wo t #[x0, x1, x2]).alloc _).alloc _, ?_, ?_⟩
  · have := Blk.new ((wo.alloc (.cells #[x0, x1, x2] t)).alloc (.cells #[] 3)) t #[y0, y1, y2]
    simpa using this
  · exact (Ow.lit0' (wo.alloc (.cells #[x0, x1, x2] t)) wo.heap.size (wo.heap.size + 1) (by simp) (by simp)).alloc _
set_option maxRecDepth 100000 in
set_option maxHeartbeats 4000000 in
theorem spec_EvenStarts (len speed cabins : Int) (wo : World) :
    Calls Try.prog 19 #[.int .i64 len, .int .i64 speed, .int .i64 cabins] wo (RetCB wo (evenL len speed cabins) (evenS len speed cabins) (evenV len speed cabins) (evenOk len speed cabins)) := by
  rcases h2 : inr cabins 0 12 with _ | _
  · rw [show evenV len speed cabins = [] by simp [evenV, evenOk, h2], show evenL len speed cabins = 0 by simp [evenL, evenOk, h2], show evenS len speed cabins = 0 by simp [evenS, evenOk, h2], show evenOk len speed cabins = false by simp [evenOk, h2]]
    have C2 := Lib.hid (fun w => h2 ▸ spec_l1In cabins 0 12 w)
    clear h2
    go_enter Try.func19, Try.ntmps19
    go_wp2_with (go_at_call 52; refine (C2.out _).mono ?_; rintro e w' ⟨rfl, rfl⟩)
    go_light
    refine bodyPost_ret (v := .tuple #[.agg #[.int .i64 0, .int .i64 0, .slice none 0 0], .bool false]) ?_ rfl (RetCB.no (l := 0) (s := 0) (g := 0) (by repeat (first | exact Below.refl _ _ | assumption | apply Below.drew | apply below_drewN | (refine Below.alloc ?_ (by first | omega | (simp; done) | (simp; omega)) _) | (refine Below.setCell ?_ (by first | omega | (simp; done) | (simp; omega)) _))))
    simp [results, Try.results19, go_sem, *]
  have hcb := inr_iff0.1 h2
  obtain ⟨C, rfl⟩ : ∃ C : Nat, cabins = (C : Int) := ⟨cabins.toNat, by omega⟩
  have hC : C ≤ 12 := by omega
  have C2 := Lib.hid (fun w => h2 ▸ spec_l1In (C : Int) 0 12 w)
  have hok : evenOk len speed C = circOk len speed (evGZ len C C) := evG_ok hC
  have hvv : evenOk len speed C = true → evenV len speed C = evGZ len C C := evG_v hC
  generalize hV : evenV len speed C = V
  generalize hL : evenL len speed C = L
  generalize hS : evenS len speed C = S
  generalize hO : evenOk len speed C = O
  have HR : Hid (∀ b, circOk len speed (evGZ len C C) = b → (O = b ∧ (b = true → V = evGZ len C C ∧ L = len ∧ S = speed) ∧ (b = false → V = [] ∧ L = 0 ∧ S = 0))) := fun b hb => by
    rw [hb] at hok
    rw [← hO, ← hV, ← hL, ← hS]
    refine ⟨hok, fun hb => ?_, fun hb => ?_⟩
    · subst hb
      exact ⟨hvv hok, by simp [evenL, hok], by simp [evenS, hok]⟩
    · subst hb
      exact ⟨by simp [evenV, hok], by simp [evenL, hok], by simp [evenS, hok]⟩
  obtain ⟨hb0, hb1, hob⟩ := three_blks wo (.int .i64 0) (.int .i64 0) (.slice none 0 0) (.int .i64 len) (.int .i64 speed) (.slice (some ⟨wo.heap.size + 1, 0, none⟩) 0 0) 27
  have hWV : Below wo.heap.size wo (((wo.alloc (.cells #[.int .i64 0, .int .i64 0, .slice none 0 0] 27)).alloc (.cells #[] 3)).alloc (.cells #[.int .i64 len, .int .i64 speed, .slice (some ⟨wo.heap.size + 1, 0, none⟩) 0 0] 27)) := (((Below.refl _ _).alloc (Nat.le_refl _) _).alloc (by simp) _).alloc (by simp; omega) _
  have hs : wo.heap.size + 2 < (((wo.alloc (.cells #[.int .i64 0, .int .i64 0, .slice none 0 0] 27)).alloc (.cells #[] 3)).alloc (.cells #[.int .i64 len, .int .i64 speed, .slice (some ⟨wo.heap.size + 1, 0, none⟩) 0 0] 27)).heap.size := by simp
  clear h2 hcb hok hvv hV hL hS hO
  go_enter Try.func19, Try.ntmps19
  go_wp2_with ((go_at_call 52; (with_reducible refine (C2.out _).mono ?_); rintro e w' ⟨rfl, rfl⟩))
  generalize ((wo.alloc (.cells #[.int .i64 0, .int .i64 0, .slice none 0 0] 27)).alloc (.cells #[] 3)).alloc (.cells #[.int .i64 len, .int .i64 speed, .slice (some ⟨wo.heap.size + 1, 0, none⟩) 0 0] 27) = w at *
  have HB0 := Lib.hid hb0
  have HB1 := Lib.hid hb1
  have HOB := Lib.hid hob
  clear hb0 hb1 hob
  go_loopg [9] C (fun gg i wr => ∃ (k : Nat) (A1 : Option Addr) (c1 : Nat) (zs : List Int), k ≤ C ∧ C ≤ k + gg ∧ i = .int .i64 k ∧ Below wo.heap.size wo wr ∧ wo.heap.size + 2 < wr.heap.size ∧
    Hid (Blk wr wo.heap.size 27 #[.int .i64 0, .int .i64 0, .slice none 0 0] ∧ Blk wr (wo.heap.size + 2) 27 #[.int .i64 len, .int .i64 speed, .slice A1 zs.length c1] ∧ Ow wr wo.heap.size (.slice A1 zs.length c1) zs ∧ zs = evGZ len C k))
  case atStart => exact ⟨0, some ⟨wo.heap.size + 1, 0, none⟩, 0, [], by omega, by omega, rfl, hWV, hs, ⟨HB0.out, HB1.out, HOB.out, rfl⟩⟩
  case round =>
    clear HB0 HB1 HOB hWV hs
    obtain ⟨k, A1, c1, zs, hk1, hk2, rfl, hBr, hsr, ha⟩ := hrel
    have b0 := ha.out.2.1.cell 0
    have b1 := ha.out.2.1.cell 1
    have b2 := ha.out.2.1.cell 2
    have f2 := ha.out.2.1.frozen 2
    simp at b0 b1 b2
    have hzl : zs.length ≤ 12 := by rw [ha.out.2.2.2, evGZ_len]; omega
    by_cases hlt : k < C
    · have hCne : ¬ ((C : Int) = 0) := by omega
      have hCn : ¬ (C = 0) := by omega
      have hCb : ((C : Int) == 0) = false := by simp; omega
      have hx : IntKind.i64.wrap ((IntKind.i64.wrap ((k : Int) * len)).tdiv (C : Int)) = evG len C k := rfl
      obtain ⟨X, hX⟩ : ∃ X, X = evG len C k := ⟨_, rfl⟩
      rw [← hX] at hx
      have hxe := Lib.hid hX.symm
      clear hX
      have hl13 : zs.length + [X].length < 1099511627776 := by simp; omega
      have hwr2 : wo.heap.size ≤ (wr.alloc (.cells #[.int .i64 (X)] 3)).drew.heap.size := by show _ ≤ (World.alloc _ _).heap.size; simp; omega
      have hwr3 : wo.heap.size + 2 < (wr.alloc (.cells #[.int .i64 (X)] 3)).drew.heap.size := by show _ < (World.alloc _ _).heap.size; simp; omega
      go_wp2_with fail
      go_region_law ((refine step_app_intsG (by rfl) (.tmp 24) (.tmp 30) (by rfl) (wr.alloc (.cells #[.int .i64 (X)] 3)).drew wo.heap.size (.slice A1 zs.length c1) zs (by rfl) (ha.out.2.2.1.alloc _).drew (some ⟨wr.heap.size, 0, none⟩) 1 1 [X] (by rfl) (rd_one wr _).drew hl13 hwr2 ?_; intro A2 c2 w2 ho2 hg2; have HO2 := Lib.hid ho2; have hB1 := Lib.hid (Blk.past (ha.out.2.1.alloc _).drew (ha.out.2.2.1.alloc _).drew hg2); have hB0 := Lib.hid (Blk.past (ha.out.1.alloc _).drew (ha.out.2.2.1.alloc _).drew hg2); have e2 := hB1.out.cell 2; have g2 := hB1.out.frozen 2; simp at e2; have HG2 := Lib.hid (below_grown (B := wo.heap.size) (w := (wr.alloc (.cells #[.int .i64 (X)] 3)).drew) (ha.out.2.2.1.alloc _).drew hg2 (Nat.le_refl _) hwr2); have hs2 : wo.heap.size + 2 < w2.heap.size := Nat.lt_of_lt_of_le hwr3 hg2.size; clear ho2 hg2))
      all_goals go_wp2_with fail
      all_goals go_roundg (C - (k + 1))
      all_goals first | omega | exact ⟨k + 1, A2, c2, zs ++ [X], by omega, by omega, by go_num, ((((hBr.alloc (by omega) _).drew).trans HG2.out).setCell (p := ⟨wo.heap.size + 2, 2, none⟩) (Nat.le_add_right _ _) _), by simpa [World.setCell] using hs2, ⟨hB0.out.far (p := ⟨wo.heap.size + 2, 2, none⟩) (Nat.ne_of_lt (Nat.lt_add_of_pos_right (by decide))) _, by (have := hB1.out.set_ 2 (.slice A2 (zs.length + 1) c2); simpa using this), by (have := HO2.out.boxed hB1.out 2 (.slice A2 (zs.length + 1) c2); simpa using this), by rw [evGZ_next, ← ha.out.2.2.2, hxe.out]⟩⟩
    · have hz : zs = evGZ len C C := by rw [ha.out.2.2.2, show k = C by omega]
      have ci := spec_l8Good len speed A1 zs.length c1 zs wr ha.out.2.2.1.rd (by omega)
      have d0 := ha.out.1.cell 0
      have d1 := ha.out.1.cell 1
      have d2 := ha.out.1.cell 2
      have k0 := ha.out.1.frozen 0
      have k1 := ha.out.1.frozen 1
      have k2 := ha.out.1.frozen 2
      simp at d0 d1 d2
      have hg0 : wo.heap.size < wr.heap.size := by omega
      rw [← hz] at HR
      rcases hcr : circOk len speed zs with _ | _
      · obtain ⟨hO, _, h3⟩ := HR.out _ hcr
        obtain ⟨hV, hL, hS⟩ := h3 rfl
        subst hO hV hL hS
        rw [hcr] at ci
        have CI := Lib.hid ci
        clear ci hcr HR hz
        go_wp2_with (go_at_call 49; refine CI.out.mono ?_; rintro e w' ⟨rfl, hb⟩; have hB : Below wo.heap.size wo w' := Below.thenn hBr hb (by omega); have d0 := (hb.cell (p := ⟨wo.heap.size, 0, none⟩) hg0).trans d0; have d1 := (hb.cell (p := ⟨wo.heap.size, 1, none⟩) hg0).trans d1; have d2 := (hb.cell (p := ⟨wo.heap.size, 2, none⟩) hg0).trans d2; have k0 := (hb.frozen (p := ⟨wo.heap.size, 0, none⟩) hg0).trans k0; have k1 := (hb.frozen (p := ⟨wo.heap.size, 1, none⟩) hg0).trans k1; have k2 := (hb.frozen (p := ⟨wo.heap.size, 2, none⟩) hg0).trans k2; clear hb)
        go_light
        refine bodyPost_ret (v := .tuple #[.agg #[.int .i64 0, .int .i64 0, .slice none 0 0], .bool false]) ?_ rfl (RetCB.no (l := 0) (s := 0) (g := 0) (Below.set3 hB (Nat.le_refl _) _ _ _))
        simp [results, Try.results19, go_sem, *]
      · obtain ⟨hO, h2, _⟩ := HR.out _ hcr
        obtain ⟨hV, hL, hS⟩ := h2 rfl
        subst hO hL hS hV
        rw [hcr] at ci
        have CI := Lib.hid ci
        have HO := Lib.hid ha.out.2.2.1
        have HB0 := Lib.hid ha.out.1
        clear ci hcr HR hz
        go_wp2_with (go_at_call 49; refine CI.out.mono ?_; rintro e w' ⟨rfl, hb⟩; have hB : Below wo.heap.size wo w' := Below.thenn hBr hb (by omega); have HO2 := Lib.hid (HO.out.below hb); have HB2 := Lib.hid (HB0.out.below hb hg0); have d0 := (hb.cell (p := ⟨wo.heap.size, 0, none⟩) hg0).trans d0; have d1 := (hb.cell (p := ⟨wo.heap.size, 1, none⟩) hg0).trans d1; have d2 := (hb.cell (p := ⟨wo.heap.size, 2, none⟩) hg0).trans d2; have k0 := (hb.frozen (p := ⟨wo.heap.size, 0, none⟩) hg0).trans k0; have k1 := (hb.frozen (p := ⟨wo.heap.size, 1, none⟩) hg0).trans k1; have k2 := (hb.frozen (p := ⟨wo.heap.size, 2, none⟩) hg0).trans k2; have b0 := (hb.cell (p := ⟨wo.heap.size + 2, 0, none⟩) hsr).trans b0; have b1 := (hb.cell (p := ⟨wo.heap.size + 2, 1, none⟩) hsr).trans b1; have b2 := (hb.cell (p := ⟨wo.heap.size + 2, 2, none⟩) hsr).trans b2; clear hb)
        go_light
        refine bodyPost_ret (v := .tuple #[.agg #[.int .i64 L, .int .i64 S, .slice A1 V.length c1], .bool true]) ?_ rfl ⟨A1, c1, rfl, ((HO2.out.boxed HB2.out 0 _).boxed (HB2.out.set_ 0 _) 1 _).boxed ((HB2.out.set_ 0 _).set_ 1 _) 2 _, Below.set3 hB (Nat.le_refl _) _ _ _⟩
        simp [results, Try.results19, go_sem, *]
end Go.Proofs.Ytidjgbonlejhhaa
