/- The circle: even starts. -/
import Derived.Test.YtidjgbonlejhhaaCircN
import Derived.Test.YtidjgbonlejhhaaCircJ
import Derived.Deep.RegionLaw
namespace Go.Proofs.Ytidjgbonlejhhaa
open Go.RowKit
set_option linter.unusedVariables false
set_option linter.unusedSimpArgs false

def evF (len : Int) (C : Nat) (i : Nat) : Int := (i : Int) * len / (C : Int)
def evZ (len : Int) (C k : Nat) : List Int := (List.range k).map (evF len C)
def evenOk (len speed cabins : Int) : Bool := inr len 10 4000 && (inr cabins 0 12 && circOk len speed (evZ len cabins.toNat cabins.toNat))
def evenV (len speed cabins : Int) : List Int := if evenOk len speed cabins then evZ len cabins.toNat cabins.toNat else []
def evenL (len speed cabins : Int) : Int := if evenOk len speed cabins then len else 0
def evenS (len speed cabins : Int) : Int := if evenOk len speed cabins then speed else 0
theorem evZ_len (len : Int) (C k : Nat) : (evZ len C k).length = k := by simp [evZ]
theorem evZ_next (len : Int) (C k : Nat) : evZ len C (k + 1) = evZ len C k ++ [evF len C k] := by simp [evZ, List.range_succ]
theorem evenV_len (len speed cabins : Int) : (evenV len speed cabins).length ≤ 1048576 := by
  unfold evenV
  split
  · rename_i h
    have : inr cabins 0 12 = true := by simp only [evenOk, Bool.and_eq_true] at h; exact h.2.1
    have := inr_iff0.1 this
    rw [evZ_len]; omega
  · simp
/-- 'append(l, x...)' at a step of a region that draws its order: what has grown. -/
theorem step_app_intsG {ops : Array Oper} {o : Oper} {a : Act} {K : Act → World → Prop} {Q : Exit → Act → World → Prop} {E : Prop} (hgd : o.guard = none) (s x : Operand)
    (ho : o.op = .call { callee := .builtin .append, args := #[s, x], argTypes := #[22, 22] }) (w : World) (B : Nat) (v : Value) (zs : List Int)
    (hs : a.eval s = v) (hown : Ow w B v zs) (A : Option Addr) (n c : Nat) (ys : List Int) (hx : a.eval x = .slice A n c) (hr : Rd w 1 A n (IV ys)) (hl : zs.length + ys.length < 1099511627776) (hB : B ≤ w.heap.size)
    (h : ∀ A' c' w', Ow w' B (.slice A' (zs ++ ys).length c') (zs ++ ys) → w.grownBy w' v.ownBlock → K (a.put o.dst (.slice A' (zs ++ ys).length c')) w') :
    if Region.wanted o (yielded ops a.tmps) = true then Oper.wp Try.prog o a w K Q else E := by
  obtain ⟨i0, hi0, hz0, hz1, hz2⟩ := info_parts info_int
  have hn := hr.len
  refine step_append_any w hgd s x _ ho B 3 i0 (.int .i64 0) 1 8 Try.underlying22 hi0 hz0 hz1 hz2 rfl (by omega) v zs.length (IV zs) hs hown _ n c (IV ys) hx hr (ints_oneCell _ _)
    (by simp only [maxLen]; omega) (by omega) hB ?_
  intro A' c' w' hown' hg
  have e1 : (zs ++ ys).length = zs.length + n := by simp [hn]
  rw [← e1] at hown' ⊢
  refine h A' c' w' ?_ hg
  simpa [Ow] using hown'
theorem Ow.drew {w : World} {B : Nat} {v : Value} {zs : List Int} (h : Ow w B v zs) : Ow w.drew B v zs := h
theorem Ow.boxed {w : World} {B g : Nat} {v : Value} {zs : List Int} {cs : Array Value} (h : Ow w B v zs) (hb : Blk w g 27 cs) (i : Nat) (u : Value) : Ow (w.setCell ⟨g, i, none⟩ u) B v zs :=
  own_grown h (row := some g) (only_setCell (g := g) (World.grownBy.refl _ _) (.inl rfl) u) (.inr (own_blk_ne h hb (by decide)))
theorem Blk.past {w w' : World} {B g : Nat} {v : Value} {zs : List Int} {cs : Array Value} (hb : Blk w g 27 cs) (h : Ow w B v zs) (hg : w.grownBy w' v.ownBlock) : Blk w' g 27 cs :=
  hb.grown hg (fun e => own_blk_ne h hb (by decide) e.symm)
theorem two_blks (wo : World) (x0 x1 x2 y0 y1 y2 : Value) (t : TypeId) :
    Blk ((wo.alloc (.cells #[x0, x1, x2] t)).alloc (.cells #[y0, y1, y2] t)) wo.heap.size t #[x0, x1, x2] ∧ Blk ((wo.alloc (.cells #[x0, x1, x2] t)).alloc (.cells #[y0, y1, y2] t)) (wo.heap.size + 1) t #[y0, y1, y2] := by
  refine ⟨(Blk.new wo t #[x0, x1, x2]).alloc _, ?_⟩
  have := Blk.new (wo.alloc (.cells #[x0, x1, x2] t)) t #[y0, y1, y2]
  simpa using this
set_option maxRecDepth 100000 in
set_option maxHeartbeats 4000000 in
theorem impl_EvenStarts (len speed cabins : Int) (wo : World) :
    Calls Try.prog 20 #[.int .i64 len, .int .i64 speed, .int .i64 cabins] wo (RetCB wo (evenL len speed cabins) (evenS len speed cabins) (evenV len speed cabins) (evenOk len speed cabins)) := by
  rcases h1 : inr len 10 4000 with _ | _
  · rw [show evenV len speed cabins = [] by simp [evenV, evenOk, h1], show evenL len speed cabins = 0 by simp [evenL, evenOk, h1], show evenS len speed cabins = 0 by simp [evenS, evenOk, h1], show evenOk len speed cabins = false by simp [evenOk, h1]]
    have C1 := Lib.hid (fun w => h1 ▸ impl_within len 10 4000 w)
    clear h1
    go_enter Try.func20, Try.ntmps20
    go_wp2_with (go_at_call 51; refine (C1.out _).mono ?_; rintro e w' ⟨rfl, rfl⟩)
    go_light
    refine bodyPost_ret (v := .tuple #[.agg #[.int .i64 0, .int .i64 0, .slice none 0 0], .bool false]) ?_ rfl (RetCB.no (l := 0) (s := 0) (g := 0) (by repeat (first | exact Below.refl _ _ | assumption | apply Below.drew | apply below_drewN | (refine Below.alloc ?_ (by first | omega | (simp; done) | (simp; omega)) _) | (refine Below.setCell ?_ (by first | omega | (simp; done) | (simp; omega)) _))))
    simp [results, Try.results20, go_sem, *]
  rcases h2 : inr cabins 0 12 with _ | _
  · rw [show evenV len speed cabins = [] by simp [evenV, evenOk, h2], show evenL len speed cabins = 0 by simp [evenL, evenOk, h2], show evenS len speed cabins = 0 by simp [evenS, evenOk, h2], show evenOk len speed cabins = false by simp [evenOk, h2]]
    have C1 := Lib.hid (fun w => h1 ▸ impl_within len 10 4000 w)
    have C2 := Lib.hid (fun w => h2 ▸ impl_within cabins 0 12 w)
    clear h1 h2
    go_enter Try.func20, Try.ntmps20
    go_wp2_with (first | (go_at_call 51; (with_reducible refine (C1.out _).mono ?_); rintro e w' ⟨rfl, rfl⟩) | (go_at_call 51; (with_reducible refine (C2.out _).mono ?_); rintro e w' ⟨rfl, rfl⟩))
    go_light
    refine bodyPost_ret (v := .tuple #[.agg #[.int .i64 0, .int .i64 0, .slice none 0 0], .bool false]) ?_ rfl (RetCB.no (l := 0) (s := 0) (g := 0) (by repeat (first | exact Below.refl _ _ | assumption | apply Below.drew | apply below_drewN | (refine Below.alloc ?_ (by first | omega | (simp; done) | (simp; omega)) _) | (refine Below.setCell ?_ (by first | omega | (simp; done) | (simp; omega)) _))))
    simp [results, Try.results20, go_sem, *]
  have hl := inr_iff0.1 h1
  have hcb := inr_iff0.1 h2
  obtain ⟨C, rfl⟩ : ∃ C : Nat, cabins = (C : Int) := ⟨cabins.toNat, by omega⟩
  have l0 := hl.1
  have l1 := hl.2
  have hC : C ≤ 12 := by omega
  have C1 := Lib.hid (fun w => h1 ▸ impl_within len 10 4000 w)
  have C2 := Lib.hid (fun w => h2 ▸ impl_within (C : Int) 0 12 w)
  have hok : evenOk len speed C = circOk len speed (evZ len C C) := by simp [evenOk, h1, h2]
  generalize hV : evenV len speed C = V
  generalize hL : evenL len speed C = L
  generalize hS : evenS len speed C = S
  generalize hO : evenOk len speed C = O
  have HR : Hid (∀ b, circOk len speed (evZ len C C) = b → (O = b ∧ (b = true → V = evZ len C C ∧ L = len ∧ S = speed) ∧ (b = false → V = [] ∧ L = 0 ∧ S = 0))) := fun b hb => by
    rw [hb] at hok
    rw [← hO, ← hV, ← hL, ← hS]
    unfold evenV evenL evenS
    rw [hok]
    cases b <;> simp
  obtain ⟨hb0, hb1⟩ := two_blks wo (.int .i64 0) (.int .i64 0) (.slice none 0 0) (.int .i64 len) (.int .i64 speed) (.slice none 0 0) 27
  have hWV : Below wo.heap.size wo ((wo.alloc (.cells #[.int .i64 0, .int .i64 0, .slice none 0 0] 27)).alloc (.cells #[.int .i64 len, .int .i64 speed, .slice none 0 0] 27)) := ((Below.refl _ _).alloc (Nat.le_refl _) _).alloc (by simp) _
  have hs : wo.heap.size + 1 < ((wo.alloc (.cells #[.int .i64 0, .int .i64 0, .slice none 0 0] 27)).alloc (.cells #[.int .i64 len, .int .i64 speed, .slice none 0 0] 27)).heap.size := by simp
  clear h1 h2 hl hcb hok hV hL hS hO
  go_enter Try.func20, Try.ntmps20
  go_wp2_with (first | (go_at_call 51; (with_reducible refine (C1.out _).mono ?_); rintro e w' ⟨rfl, rfl⟩) | (go_at_call 51; (with_reducible refine (C2.out _).mono ?_); rintro e w' ⟨rfl, rfl⟩))
  generalize (wo.alloc (.cells #[.int .i64 0, .int .i64 0, .slice none 0 0] 27)).alloc (.cells #[.int .i64 len, .int .i64 speed, .slice none 0 0] 27) = w at *
  have HB0 := Lib.hid hb0
  have HB1 := Lib.hid hb1
  clear hb0 hb1
  go_loopg [23] C (fun gg i wr => ∃ (k : Nat) (A1 : Option Addr) (c1 : Nat) (zs : List Int), k ≤ C ∧ C ≤ k + gg ∧ i = .int .i64 k ∧ Below wo.heap.size wo wr ∧ wo.heap.size + 1 < wr.heap.size ∧
    Hid (Blk wr wo.heap.size 27 #[.int .i64 0, .int .i64 0, .slice none 0 0] ∧ Blk wr (wo.heap.size + 1) 27 #[.int .i64 len, .int .i64 speed, .slice A1 zs.length c1] ∧ Ow wr wo.heap.size (.slice A1 zs.length c1) zs ∧ zs = evZ len C k))
  case atStart => exact ⟨0, none, 0, [], by omega, by omega, rfl, hWV, hs, ⟨HB0.out, HB1.out, Ow.nil _ _, rfl⟩⟩
  case round =>
    clear HB0 HB1 hWV hs
    obtain ⟨k, A1, c1, zs, hk1, hk2, rfl, hBr, hsr, ha⟩ := hrel
    have b0 := ha.out.2.1.cell 0
    have b1 := ha.out.2.1.cell 1
    have b2 := ha.out.2.1.cell 2
    have f2 := ha.out.2.1.frozen 2
    simp at b0 b1 b2
    have hzl : zs.length ≤ 12 := by rw [ha.out.2.2.2, evZ_len]; omega
    by_cases hlt : k < C
    · have hCne : ¬ ((C : Int) = 0) := by omega
      have hCn : ¬ (C = 0) := by omega
      have hCb : ((C : Int) == 0) = false := by simp; omega
      have p0 : 0 ≤ (k : Int) * len := Int.mul_nonneg (by omega) (by omega)
      have p1 : (k : Int) * len ≤ 48000 := by
        have h1 := Int.mul_le_mul_of_nonneg_right (a := (k : Int)) (b := 12) (c := len) (by omega) (by omega)
        omega
      have q0 := Int.ediv_nonneg p0 (show 0 ≤ (C : Int) by omega)
      have q1 := Int.ediv_le_self (C : Int) p0
      have u1 : IntKind.i64.wrap ((k : Int) * len) = (k : Int) * len := IntWalk.i64_in _ (by omega)
      have u2 : ((k : Int) * len).tdiv (C : Int) = (k : Int) * len / (C : Int) := Int.tdiv_eq_ediv_of_nonneg p0
      have u3 : IntKind.i64.wrap ((k : Int) * len / (C : Int)) = (k : Int) * len / (C : Int) := IntWalk.i64_in _ (by omega)
      have hxe : Hid (evF len C k = (k : Int) * len / (C : Int)) := rfl
      have hl13 : zs.length + [(k : Int) * len / (C : Int)].length < 1099511627776 := by simp; omega
      have hwr2 : wo.heap.size ≤ (wr.alloc (.cells #[.int .i64 ((k : Int) * len / (C : Int))] 3)).drew.heap.size := by show _ ≤ (World.alloc _ _).heap.size; simp; omega
      have hwr3 : wo.heap.size + 1 < (wr.alloc (.cells #[.int .i64 ((k : Int) * len / (C : Int))] 3)).drew.heap.size := by show _ < (World.alloc _ _).heap.size; simp; omega
      go_wp2_with fail
      go_region_law ((refine step_app_intsG (by rfl) (.tmp 27) (.tmp 33) (by rfl) (wr.alloc (.cells #[.int .i64 ((k : Int) * len / (C : Int))] 3)).drew wo.heap.size (.slice A1 zs.length c1) zs (by rfl) (ha.out.2.2.1.alloc _).drew (some ⟨wr.heap.size, 0, none⟩) 1 1 [(k : Int) * len / (C : Int)] (by rfl) (rd_one wr _).drew hl13 hwr2 ?_; intro A2 c2 w2 ho2 hg2; have HO2 := Lib.hid ho2; have hB1 := Lib.hid (Blk.past (ha.out.2.1.alloc _).drew (ha.out.2.2.1.alloc _).drew hg2); have hB0 := Lib.hid (Blk.past (ha.out.1.alloc _).drew (ha.out.2.2.1.alloc _).drew hg2); have e2 := hB1.out.cell 2; have g2 := hB1.out.frozen 2; simp at e2; have HG2 := Lib.hid (below_grown (B := wo.heap.size) (w := (wr.alloc (.cells #[.int .i64 ((k : Int) * len / (C : Int))] 3)).drew) (ha.out.2.2.1.alloc _).drew hg2 (Nat.le_refl _) hwr2); have hs2 : wo.heap.size + 1 < w2.heap.size := Nat.lt_of_lt_of_le hwr3 hg2.size; clear ho2 hg2))
      all_goals go_wp2_with fail
      all_goals go_roundg (C - (k + 1))
      all_goals first | omega | exact ⟨k + 1, A2, c2, zs ++ [(k : Int) * len / (C : Int)], by omega, by omega, by go_num, ((((hBr.alloc (by omega) _).drew).trans HG2.out).setCell (p := ⟨wo.heap.size + 1, 2, none⟩) (Nat.le_succ _) _), by simpa [World.setCell] using hs2, ⟨hB0.out.far (p := ⟨wo.heap.size + 1, 2, none⟩) (Nat.ne_of_lt (Nat.lt_succ_self _)) _, by (have := hB1.out.set_ 2 (.slice A2 (zs.length + 1) c2); simpa using this), by (have := HO2.out.boxed hB1.out 2 (.slice A2 (zs.length + 1) c2); simpa using this), by rw [evZ_next, ← ha.out.2.2.2, hxe.out]⟩⟩
    · have hz : zs = evZ len C C := by rw [ha.out.2.2.2, show k = C by omega]
      have ci := impl_IsCircle len speed A1 zs.length c1 zs wr ha.out.2.2.1.rd (by omega)
      have d0 := ha.out.1.cell 0
      have d1 := ha.out.1.cell 1
      have d2 := ha.out.1.cell 2
      have k0 := ha.out.1.frozen 0
      have k1 := ha.out.1.frozen 1
      have k2 := ha.out.1.frozen 2
      simp at d0 d1 d2
      have hg0 : wo.heap.size < wr.heap.size := by omega
      rw [← hz] at HR
      rcases hcr : circOk len speed zs with _ | _
      · obtain ⟨hO, _, h3⟩ := HR.out _ hcr
        obtain ⟨hV, hL, hS⟩ := h3 rfl
        subst hO hV hL hS
        rw [hcr] at ci
        have CI := Lib.hid ci
        clear ci hcr HR hz
        go_wp2_with (go_at_call 17; refine CI.out.mono ?_; rintro e w' ⟨rfl, hb⟩; have hB : Below wo.heap.size wo w' := Below.thenn hBr hb (by omega); have d0 := (hb.cell (p := ⟨wo.heap.size, 0, none⟩) hg0).trans d0; have d1 := (hb.cell (p := ⟨wo.heap.size, 1, none⟩) hg0).trans d1; have d2 := (hb.cell (p := ⟨wo.heap.size, 2, none⟩) hg0).trans d2; have k0 := (hb.frozen (p := ⟨wo.heap.size, 0, none⟩) hg0).trans k0; have k1 := (hb.frozen (p := ⟨wo.heap.size, 1, none⟩) hg0).trans k1; have k2 := (hb.frozen (p := ⟨wo.heap.size, 2, none⟩) hg0).trans k2; clear hb)
        go_light
        refine bodyPost_ret (v := .tuple #[.agg #[.int .i64 0, .int .i64 0, .slice none 0 0], .bool false]) ?_ rfl (RetCB.no (l := 0) (s := 0) (g := 0) (Below.set3 hB (Nat.le_refl _) _ _ _))
        simp [results, Try.results20, go_sem, *]
      · obtain ⟨hO, h2, _⟩ := HR.out _ hcr
        obtain ⟨hV, hL, hS⟩ := h2 rfl
        subst hO hL hS hV
        rw [hcr] at ci
        have CI := Lib.hid ci
        have HO := Lib.hid ha.out.2.2.1
        have HB0 := Lib.hid ha.out.1
        clear ci hcr HR hz
        go_wp2_with (go_at_call 17; refine CI.out.mono ?_; rintro e w' ⟨rfl, hb⟩; have hB : Below wo.heap.size wo w' := Below.thenn hBr hb (by omega); have HO2 := Lib.hid (HO.out.below hb); have HB2 := Lib.hid (HB0.out.below hb hg0); have d0 := (hb.cell (p := ⟨wo.heap.size, 0, none⟩) hg0).trans d0; have d1 := (hb.cell (p := ⟨wo.heap.size, 1, none⟩) hg0).trans d1; have d2 := (hb.cell (p := ⟨wo.heap.size, 2, none⟩) hg0).trans d2; have k0 := (hb.frozen (p := ⟨wo.heap.size, 0, none⟩) hg0).trans k0; have k1 := (hb.frozen (p := ⟨wo.heap.size, 1, none⟩) hg0).trans k1; have k2 := (hb.frozen (p := ⟨wo.heap.size, 2, none⟩) hg0).trans k2; have b0 := (hb.cell (p := ⟨wo.heap.size + 1, 0, none⟩) hsr).trans b0; have b1 := (hb.cell (p := ⟨wo.heap.size + 1, 1, none⟩) hsr).trans b1; have b2 := (hb.cell (p := ⟨wo.heap.size + 1, 2, none⟩) hsr).trans b2; clear hb)
        go_light
        refine bodyPost_ret (v := .tuple #[.agg #[.int .i64 L, .int .i64 S, .slice A1 V.length c1], .bool true]) ?_ rfl ⟨A1, c1, rfl, ((HO2.out.boxed HB2.out 0 _).boxed (HB2.out.set_ 0 _) 1 _).boxed ((HB2.out.set_ 0 _).set_ 1 _) 2 _, Below.set3 hB (Nat.le_refl _) _ _ _⟩
        simp [results, Try.results20, go_sem, *]
end Go.Proofs.Ytidjgbonlejhhaa
