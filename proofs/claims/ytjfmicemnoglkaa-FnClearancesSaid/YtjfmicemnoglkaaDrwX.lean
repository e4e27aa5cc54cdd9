/- Merged: GpL, DrwG, DrwH. -/
import Derived.Test.YtjfmicemnoglkaaFlat
import Derived.Test.YtjfmicemnoglkaaPut
import Derived.Test.YtjfmicemnoglkaaDraw
import Derived.Test.YtjfmicemnoglkaaSupE
import Derived.Deep.CutRange
import Derived.Test.YtjfmicemnoglkaaSupI
namespace Go.Proofs.Ytjfmicemnoglkaa
open Go.RowKit
set_option linter.unusedVariables false
set_option linter.unusedSimpArgs false

theorem OwR.genG {w w' : World} {B : Nat} {t : TypeId} {F : Nat} {v : Value} {rows : List (List Int)} {g : Nat} (h : OwR w B t F v rows) (hg : w.grownBy w' (some g)) (hB : g < B) : OwR w' B t F v rows := h.other hg (fun k hk => by injection hk with hk; omega)
theorem OwR.lenG {w : World} {B : Nat} {t : TypeId} {F : Nat} {A : Option Addr} {n c : Nat} {rows : List (List Int)} (h : OwR w B t F (.slice A n c) rows) : rows.length = n := by
  obtain ⟨A', c', e, _⟩ := h.1.shape
  injection e with e1 e2 e3
  exact e2.symm
theorem info_GroundPoint : (Try.prog.info? 64).map (fun i => (i.zero, i.size, i.bytes)) = some (some (.agg #[.int .i64 0, .int .i64 0]), 2, 16) := by kernel_rfl
theorem RdR.cat_GroundPoint {w : World} {B n m c : Nat} {A : Option Addr} {rows ys : List (List Int)} (he : Even 2 rows) (he' : Even 2 ys) (hn : rows.length + m = (rows ++ ys).length)
    (h : w.ownsRow B 64 2 (.slice A (rows.length + m) c) (rows.length + m) (IV rows.flatten ++ IV ys.flatten)) : OwR w B 64 2 (.slice A (rows ++ ys).length c) (rows ++ ys) := by
  refine ⟨?_, ?_⟩
  · unfold OwF
    rw [← hn, List.flatten_append]
    simpa using h
  · intro r hr
    rcases List.mem_append.1 hr with h1 | h1
    · exact he r h1
    · exact he' r h1
/-- 'append(out, l...)'. -/
theorem wp_app_GroundPointS {ops : Array Oper} {rest : List Oper} {o : Oper} {a : Act} {Q : Exit → Act → World → Prop} (hgd : o.guard = none) (s x : Operand)
    (ho : o.op = .call { callee := .builtin .append, args := #[s, x], argTypes := #[57, 57] }) (w : World) (B : Nat) (v : Value) (rows : List (List Int))
    (hs : a.eval s = v) (hown : OwR w B 64 2 v rows) (A : Option Addr) (n c : Nat) (ys : List (List Int)) (hx : a.eval x = .slice A n c) (hr : RdR w 2 A n ys) (hl : rows.length + n < 1099511627776) (hB : B ≤ w.heap.size)
    (h : ∀ A' c' w', OwR w' B 64 2 (.slice A' (rows ++ ys).length c') (rows ++ ys) → Below B w w' → wpList Try.prog ops Q rest (a.put o.dst (.slice A' (rows ++ ys).length c')) w') :
    wpList Try.prog ops Q (o :: rest) a w := by
  obtain ⟨i0, hi0, hz0, hz1, hz2⟩ := info_parts info_GroundPoint
  have e1 : rows.length + n = (rows ++ ys).length := by simp [hr.2.2]
  refine wpList_append_any _ hgd s x _ ho B 64 i0 _ 2 16 Try.underlying57 hi0 hz0 hz1 hz2 rfl (by omega) v rows.length (IV rows.flatten) hs hown.1 _ n c (IV ys.flatten) hx hr.1 (ints_oneCell _ _)
    (by simp only [maxLen]; omega) (by omega) hB ?_
  intro A' c' w' hown' hg
  have hn := RdR.cat_GroundPoint (n := n) hown.2 hr.2.1 e1 hown'
  have hb := below_grown hown.1 hg (Nat.le_refl _) hB
  rw [e1]
  exact h A' c' w' hn hb
/-- The same at a step of a region that draws its order: also what has grown. -/
theorem step_app_GroundPointH {ops : Array Oper} {o : Oper} {a : Act} {K : Act → World → Prop} {Q : Exit → Act → World → Prop} {E : Prop} (hgd : o.guard = none) (s x : Operand)
    (ho : o.op = .call { callee := .builtin .append, args := #[s, x], argTypes := #[57, 57] }) (w : World) (B : Nat) (v : Value) (rows : List (List Int))
    (hs : a.eval s = v) (hown : OwR w B 64 2 v rows) (A : Option Addr) (n c : Nat) (ys us : List (List Int)) (m : Nat) (hus : rows ++ ys = us) (hum : us.length = m) (hx : a.eval x = .slice A n c) (hr : RdR w 2 A n ys) (hl : m < 1099511627776) (hB : B ≤ w.heap.size)
    (h : ∀ A' c' w', OwR w' B 64 2 (.slice A' m c') us → w.grownBy w' v.ownBlock → Below B w w' → K (a.put o.dst (.slice A' m c')) w') :
    if Region.wanted o (yielded ops a.tmps) = true then Oper.wp Try.prog o a w K Q else E := by
  subst hus hum
  obtain ⟨i0, hi0, hz0, hz1, hz2⟩ := info_parts info_GroundPoint
  have e1 : rows.length + n = (rows ++ ys).length := by simp [hr.2.2]
  refine step_append_any w hgd s x _ ho B 64 i0 _ 2 16 Try.underlying57 hi0 hz0 hz1 hz2 rfl (by omega) v rows.length (IV rows.flatten) hs hown.1 _ n c (IV ys.flatten) hx hr.1 (ints_oneCell _ _)
    (by simp only [maxLen]; omega) (by omega) hB ?_
  intro A' c' w' hown' hg
  have hn := RdR.cat_GroundPoint (n := n) hown.2 hr.2.1 e1 hown'
  have hb := below_grown hown.1 hg (Nat.le_refl _) hB
  rw [e1]
  exact h A' c' w' hn hg hb
theorem RdR.one_GroundPoint (x0 x1 : Int) (w : World) : RdR (w.alloc (.cells #[.int .i64 x0, .int .i64 x1] 64)) 2 (some ⟨w.heap.size, 0, none⟩) 1 [[x0, x1]] := by
  refine ⟨?_, by simp [Even], rfl⟩
  have := Rd.of_block (n := 1) (size := 2) (heap_alloc_new w (.cells #[.int .i64 x0, .int .i64 x1] 64)) rfl
  simpa using this
/-- 'append(out, x)' of one that the walk has just laid in a block of its own. -/
theorem wp_app_GroundPoint1 {ops : Array Oper} {rest : List Oper} {o : Oper} {a : Act} {Q : Exit → Act → World → Prop} (hgd : o.guard = none) (s x : Operand)
    (ho : o.op = .call { callee := .builtin .append, args := #[s, x], argTypes := #[57, 57] }) (w : World) (B : Nat) (v : Value) (rows : List (List Int)) (x0 x1 : Int)
    (hs : a.eval s = v) (hown : OwR w B 64 2 v rows) (hx : a.eval x = .slice (some ⟨w.heap.size, 0, none⟩) 1 1) (m : Nat) (hm : rows.length = m) (hl : m < 1000000) (hB : B ≤ w.heap.size)
    (h : ∀ A' c' w', OwR w' B 64 2 (.slice A' (m + 1) c') (rows ++ [[x0, x1]]) → Below B w w' → wpList Try.prog ops Q rest (a.put o.dst (.slice A' (m + 1) c')) w') :
    wpList Try.prog ops Q (o :: rest) a (w.alloc (.cells #[.int .i64 x0, .int .i64 x1] 64)) := by
  subst hm
  refine wp_app_GroundPointS hgd s x ho _ B v rows hs ⟨hown.1.alloc _, hown.2⟩ _ 1 1 [[x0, x1]] hx (RdR.one_GroundPoint x0 x1 w) (by omega) (Nat.le_trans hB (by simp)) ?_
  intro A' c' w' ho' hb
  have e : (rows ++ [[x0, x1]]).length = rows.length + 1 := by simp
  rw [e] at ho' ⊢
  exact h A' c' w' ho' (((Below.refl B w).alloc hB _).trans hb)
/-- A list that was drawn. -/
def DrewGroundPoints (w : World) (g : Nat) (S : Src) (K m : Nat) (e : Ending) (w' : World) : Prop :=
  ∃ A c rows, e = .returned (.slice A rows.length c) ∧ rows.length ≤ m ∧ OwR w' w.heap.size 64 2 (.slice A rows.length c) rows ∧ Cur w' g S K ∧ w.grownBy w' (some g)
theorem DrewGroundPoints.mk {w w' : World} {g : Nat} {S : Src} {K m : Nat} {A : Option Addr} {n c : Nat} {rows : List (List Int)} (hn : n ≤ m) (ho : OwR w' w.heap.size 64 2 (.slice A n c) rows) (hC : Cur w' g S K) (hG : w.grownBy w' (some g)) : DrewGroundPoints w g S K m (.returned (.slice A n c)) w' := by
  obtain rfl := ho.lenG
  exact ⟨A, c, rows, rfl, hn, ho, hC, hG⟩
end Go.Proofs.Ytjfmicemnoglkaa
namespace Go.Proofs.Ytjfmicemnoglkaa
open Go.RowKit
set_option linter.unusedVariables false
set_option linter.unusedSimpArgs false

/-- Rows of two numbers that read, in a block past B. -/
def FrR (w : World) (B : Nat) (A : Option Addr) (n : Nat) (rows : List (List Int)) : Prop := RdR w 2 A n rows ∧ ∀ a, A = some a → B ≤ a.block
theorem FrR.gen {w w' : World} {B n g : Nat} {A : Option Addr} {rows : List (List Int)} (h : FrR w B A n rows) (hg : w.grownBy w' (some g)) (hB : g < B) : FrR w' B A n rows :=
  ⟨⟨h.1.1.keepAt fun b off hn e hlt => hg.block b hlt (by
    intro e'
    injection e' with e'
    have := h.2 _ e
    simp at this
    omega), h.1.2⟩, h.2⟩
theorem FrR.below {w w' : World} {B n : Nat} {A : Option Addr} {rows : List (List Int)} (h : FrR w B A n rows) (hb : Below w.heap.size w w') : FrR w' B A n rows := ⟨⟨h.1.1.below hb, h.1.2⟩, h.2⟩
theorem FrR.base {w : World} {B B' n : Nat} {A : Option Addr} {rows : List (List Int)} (h : FrR w B A n rows) (hb : B' ≤ B) : FrR w B' A n rows := ⟨h.1, fun a e => Nat.le_trans hb (h.2 a e)⟩
theorem FrR.far2 {w : World} {B n q i j : Nat} {A : Option Addr} {rows : List (List Int)} (h : FrR w B A n rows) (hq : q < B) (x y : Value) : FrR ((w.setCell ⟨q, i, none⟩ x).setCell ⟨q, j, none⟩ y) B A n rows :=
  h.gen (only_setCell (only_setCell (World.grownBy.refl w (some q)) (p := ⟨q, i, none⟩) (.inl rfl) x) (p := ⟨q, j, none⟩) (.inl rfl) y) hq
theorem OwR.fr {w : World} {B n c : Nat} {t : TypeId} {A : Option Addr} {rows : List (List Int)} (h : OwR w B t 2 (.slice A n c) rows) : FrR w B A n rows := by
  have hl := h.lenG
  subst hl
  refine ⟨h.rdR, fun a e => ?_⟩
  subst e
  exact h.block_ge a.block (by
    obtain ⟨A', c', e, _⟩ := h.1.shape
    simp [Value.ownBlock])
/-- The first row's block. -/
theorem OwR.head {w : World} {B n c : Nat} {t : TypeId} {A : Option Addr} {rows : List (List Int)} (h : OwR w B t 2 (.slice A (n + 1) c) rows) : ∃ g, A = some ⟨g, 0, none⟩ ∧ B ≤ g ∧ g < w.heap.size ∧ ∀ m, w.frozen? ⟨g, m, none⟩ = false := by
  have hl := h.lenG
  have h1 : OwF w B t 2 (.slice A (n + 1) c) (n + 1) rows.flatten := hl ▸ h.1
  obtain ⟨g, hA, hB, hg, hcs, hfs⟩ := h1.cellsAt (by omega)
  exact ⟨g, hA, hB, hg, hfs⟩
def DrewGr (w : World) (g : Nat) (S : Src) (K : Nat) (e : Ending) (w' : World) : Prop :=
  ∃ A n c rows, e = .returned (.slice A n c) ∧ n ≤ 8 ∧ FrR w' w.heap.size A n rows ∧ Cur w' g S K ∧ w.grownBy w' (some g)
theorem FrR.drop1 {w : World} {B n c b : Nat} {rows : List (List Int)} (h : FrR w B (some ⟨b, 0, none⟩) (n + 1) rows) (hc : n + 1 ≤ c) : FrR w B (if c = 1 then some ⟨b, 0, none⟩ else some ⟨b, 2, none⟩) n (rows.drop 1) := by
  refine ⟨⟨?_, fun r hr => h.1.2.1 r (List.mem_of_mem_drop hr), by simp [h.1.2.2]⟩, fun a e => ?_⟩
  · have := Rd.cut (k := 1) (cap := c) h.1.1 (by omega) hc
    have e1 : (some (⟨b, 0, none⟩ : Addr)).map (·.add (1 * 2)) = some ⟨b, 2, none⟩ := by simp [Addr.add_lit]
    rw [e1] at this
    have e2 : (IV rows.flatten).drop (1 * 2) = IV (rows.drop 1).flatten := by
      cases rows with
      | nil => simp
      | cons r rs =>
        have hr : r.length = 2 := h.1.2.1 r (List.mem_cons_self ..)
        simp [List.drop_append_of_le_length, ← hr]
    rw [e2] at this
    simpa using this
  · have := h.2 _ rfl
    split at e <;> (injection e with e; subst e; exact this)
theorem OwR.drop1 {w : World} {B n c b : Nat} {t : TypeId} {rows : List (List Int)} (h : OwR w B t 2 (.slice (some ⟨b, 0, none⟩) (n + 1) c) rows) : FrR w B (if c = 1 then some ⟨b, 0, none⟩ else some ⟨b, 2, none⟩) n (rows.drop 1) := h.fr.drop1 (by have := h.cap; have := h.lenG; omega)
theorem OwR.put2h {w : World} {B n c b : Nat} {t : TypeId} {rows : List (List Int)} (h : OwR w B t 2 (.slice (some ⟨b, 0, none⟩) (n + 1) c) rows) (x y : Int) : ∃ rs, OwR ((w.setCell ⟨b, 0, none⟩ (.int .i64 x)).setCell ⟨b, 1, none⟩ (.int .i64 y)) B t 2 (.slice (some ⟨b, 0, none⟩) (n + 1) c) rs := by
  have hl := h.lenG
  obtain ⟨r, rs, rfl⟩ : ∃ r rs, rows = r :: rs := by
    cases rows with
    | nil => simp at hl
    | cons r rs => exact ⟨r, rs, rfl⟩
  have h1 := h.set1 (k := 0) (j := 0) hl rfl (by omega) x
  have h2 := h1.set1 (k := 0) (j := 1) (by simpa using hl) rfl (by omega) y
  simp only [Nat.zero_mul, Nat.zero_add] at h2
  exact ⟨_, h2⟩
theorem OwR.cell_two {w : World} {B n c b : Nat} {t : TypeId} {rows : List (List Int)} (h : OwR w B t 2 (.slice (some ⟨b, 0, none⟩) (n + 1) c) rows) : (∃ p, w.cell? ⟨b, 0, none⟩ = some (.int .i64 p)) ∧ ∃ p, w.cell? ⟨b, 1, none⟩ = some (.int .i64 p) := by
  have hl := h.lenG
  have h1 : OwF w B t 2 (.slice (some ⟨b, 0, none⟩) (n + 1) c) (n + 1) rows.flatten := hl ▸ h.1
  obtain ⟨g, hA, hB, hg, hcs, hfs⟩ := h1.cellsAt (by omega)
  injection hA with hA
  injection hA with hA
  subst hA
  obtain ⟨x, _, hx⟩ := hcs 0 (by omega)
  obtain ⟨y, _, hy⟩ := hcs 1 (by omega)
  exact ⟨⟨x, hx⟩, ⟨y, hy⟩⟩
set_option maxRecDepth 100000 in
set_option maxHeartbeats 4000000 in
theorem cur_ground (w : World) (g : Nat) (S : Src) (K B : Nat) (A : Option Addr) (n c : Nat) (rows : List (List Int)) (h : Cur w g S K) (hK : K ≤ 600000) (ho : OwL w B (.slice A n c) rows) (hn : n ≤ 1000) :
    Calls Try.prog 120 #[.pointer (some ⟨g, 0, none⟩), .slice A n c] w (DrewGr w g S (K + 60)) := by
  have H := Lib.hid h
  have HOL := Lib.hid ho
  have hg := h.lt
  clear h ho
  go_enter Try.func120, Try.ntmps120
  go_upto_if 10 with fail
  go_cut [5] (fun s5 wx => ∃ x : Int, s5 = .int .i64 x ∧ w = wx)
  case first =>
    as_aux_lemma =>
      rcases Nat.eq_zero_or_pos n with h0 | h0
      · subst h0
        go_wp2_with fail
        go_meet
        exact ⟨0, rfl, rfl⟩
      · obtain ⟨b, x0, x1, x2, rfl, hB, hbl, hr, c0, c1, c2, _⟩ := HOL.out.cells (k := n - 1) (by omega)
        clear hr
        have u1 : IntKind.i64.wrap ((n : Int) - 1) = (n : Int) - 1 := IntWalk.i64_in _ (by omega)
        have u2 : ((n : Int) - 1).toNat = n - 1 := by omega
        have u3 : 0 ≤ (n : Int) - 1 := by omega
        go_wp2_with fail
        go_meet
        exact ⟨x0, rfl, rfl⟩
  case rest =>
    · skip
      obtain ⟨e, rfl, rfl⟩ := hcut
      clear HOL
      have O0 : Hid (OwR (w.alloc (.cells #[] 64)) w.heap.size 64 2 (.slice (some ⟨w.heap.size, 0, none⟩) 0 0) []) := Lib.hid (OwR.lit0 w w.heap.size 64 2 (Nat.le_refl _))
      have C0 := Lib.hid (H.out.alloc (.cells #[] 64))
      have G0 := Lib.hid (only_alloc (World.grownBy.refl w (some g)) (.cells #[] 64))
      go_wp2_with fail
      go_loopg [6, 7] 8 (fun gg li at_ wr => ∃ (m : Nat) (x : Int) (A : Option Addr) (c : Nat) (rows : List (List Int)), m ≤ 7 ∧ 7 ≤ m + gg ∧ at_ = .int .i64 x ∧ li = .slice A m c ∧ Hid (OwR wr w.heap.size 64 2 (.slice A m c) rows) ∧ Hid (Cur wr g S (K + 4 * m)) ∧ Hid (w.grownBy wr (some g)))
      case atStart => exact ⟨0, 0, _, _, _, by omega, by omega, rfl, rfl, O0, C0, G0⟩
      case round =>
        obtain ⟨m, x, A', c', rows', hm1, hm2, rfl, rfl, HO, HC, HG⟩ := hrel
        have HL := Lib.hid HO.out.lenG
        clear O0 C0 G0
        have hlen : IntKind.i64.wrap ((m : Int)) = (m : Int) := IntWalk.i64_in _ (by omega)
        rcases Int.lt_or_le x e with hx | hx
        · have hxb : decide (x < e) = true := decide_eq_true hx
          rcases Nat.lt_or_ge m 7 with h7 | h7
          · have h7b : decide ((m : Int) < 7) = true := decide_eq_true (by omega)
            go_wp2_with fail
            (go_at_call 96; refine (cur_among wr _ S (K + 4 * m) [380, 390, 400, 300, 450, 0] (fun r => True) _ _ (HC.out) (by omega) rfl rfl (by decide) (by decide) (by decide)).mono ?_; rintro e w1 ⟨r, rp, rfl, hC, hG⟩; have Cw1 := Lib.hid hC; have Gw1 := Lib.hid hG; have Zw1 := hG.size; clear hC hG)
            have O1 := Lib.hid (HO.out.genG Gw1.out hg)
            have G1 := Lib.hid (only_trans HG.out Gw1.out)
            have hz1 := G1.out.size
            go_wp2_with (at_builtin; refine wp_app_GroundPoint1 rfl (.tmp 32) (.tmp 38) rfl w1 w.heap.size (.slice A' m c') rows' x r rfl O1.out rfl m HL.out (by omega) hz1 ?_; intro A2 c2 w2 ho2 hb2; have O2 := Lib.hid ho2; have C2 := Lib.hid (Cw1.out.belowB hb2 hg); have G2 := Lib.hid (grown_below G1.out hb2); clear ho2 hb2)
            (go_at_call 96; refine (cur_among w2 _ S (K + 4 * m + 2) [30, 60, 150, 333] (fun r => True) _ _ (C2.out) (by omega) rfl rfl (by decide) (by decide) (by decide)).mono ?_; rintro e w3 ⟨d, dp, rfl, hC, hG⟩; have Cw3 := Lib.hid hC; have Gw3 := Lib.hid hG; have Zw3 := hG.size; clear hC hG)
            have O3 := Lib.hid (O2.out.genG Gw3.out hg)
            have G3 := Lib.hid (only_trans G2.out Gw3.out)
            go_wp2_with fail
            go_roundg (7 - (m + 1))
            case measure => omega
            case rel => exact ⟨m + 1, _, A2, c2, _, by omega, by omega, rfl, rfl, O3, Cw3.out.more (by omega), G3⟩
          · have h7b : decide ((m : Int) < 7) = false := decide_eq_false (by omega)
            have h7c : ¬ m < 7 := by omega
            clear h7
            (go_wp2_with fail; (go_at_call 96; refine (cur_among wr _ S (K + 40) [400, 350, 0] (fun r => True) _ _ (HC.out.more (by omega)) (by omega) rfl rfl (by decide) (by decide) (by decide)).mono ?_; rintro e w1 ⟨r, rp, rfl, hC, hG⟩; have Cw1 := Lib.hid hC; have Gw1 := Lib.hid hG; have Zw1 := hG.size; clear hC hG); have O1 := Lib.hid (HO.out.genG Gw1.out hg); have G1 := Lib.hid (only_trans HG.out Gw1.out); have hz1 := G1.out.size; go_wp2_with (at_builtin; refine wp_app_GroundPoint1 rfl (.tmp 40) (.tmp 46) rfl w1 w.heap.size (.slice A' m c') rows' e r rfl O1.out rfl m HL.out (by omega) hz1 ?_; intro A2 c2 w2 ho2 hb2; have O2 := Lib.hid ho2; have C2 := Lib.hid (Cw1.out.belowB hb2 hg); have G2 := Lib.hid (grown_below G1.out hb2); clear ho2 hb2); (go_at_call 125; (with_reducible refine (cur_pick w2 _ S (K + 40 + 2) (32) (C2.out) (by omega) (by omega) (by omega)).mono ?_); rintro e w3 ⟨t, ⟨t0, t1⟩, rfl, hC, hG⟩; have Cw3 := Lib.hid hC; have Gw3 := Lib.hid hG; have Zw3 := hG.size; clear hC hG); have O3 := Lib.hid (O2.out.genG Gw3.out hg); have G3 := Lib.hid (only_trans G2.out Gw3.out); have hcap := O3.out.cap; have hrl := O3.out.lenG; obtain ⟨b, eA, hbB, hbs, hfz⟩ := O3.out.head; subst eA)
            go_wp2_with fail
            all_goals first
              | (go_ret
                 exact ⟨_, _, _, _, rfl, by omega, by have hx := O3.out.drop1; first | (rw [if_neg (by omega)] at hx; exact hx) | (simpa [*] using hx), Cw3.out.more (by omega), G3.out⟩)
              | (go_ret
                 exact ⟨_, _, _, _, rfl, by omega, O3.out.fr, Cw3.out.more (by omega), G3.out⟩)
              | ((go_at_call 96; refine (cur_among w3 _ S (K + 40 + 2 + 2) [0, 1] (fun r => True) _ _ (Cw3.out) (by omega) rfl rfl (by decide) (by decide) (by decide)).mono ?_; rintro e w4 ⟨a, ap, rfl, hC, hG⟩; have Cw4 := Lib.hid hC; have Gw4 := Lib.hid hG; have Zw4 := hG.size; clear hC hG)
                 go_wp2_with fail
                 (go_at_call 96; refine (cur_among w4 _ S (K + 40 + 2 + 2 + 2) [-1, 2000, 2001] (fun r => True) _ _ (Cw4.out) (by omega) rfl rfl (by decide) (by decide) (by decide)).mono ?_; rintro e w5 ⟨z, zp, rfl, hC, hG⟩; have Cw5 := Lib.hid hC; have Gw5 := Lib.hid hG; have Zw5 := hG.size; clear hC hG)
                 have O5 := Lib.hid ((O3.out.genG Gw4.out hg).genG Gw5.out hg)
                 have G5 := Lib.hid (only_trans G3.out (only_trans Gw4.out Gw5.out))
                 have hgb : g < b := by omega
                 have C5 := Lib.hid ((Cw5.out.far (p := ⟨b, 0, none⟩) hgb (.int .i64 a)).far (p := ⟨b, 1, none⟩) hgb (.int .i64 z))
                 have G6 := Lib.hid (only_setCell (only_setCell G5.out (p := ⟨b, 0, none⟩) (.inr hbB) (.int .i64 a)) (p := ⟨b, 1, none⟩) (.inr hbB) (.int .i64 z))
                 obtain ⟨_, e5, _, hbs5, hfz5⟩ := O5.out.head
                 injection e5 with e5
                 injection e5 with e5
                 subst e5
                 have f0 := hfz5 0
                 have f1 := hfz5 1
                 obtain ⟨rs, O6⟩ := O5.out.put2h a z
                 have O7 := Lib.hid O6
                 obtain ⟨⟨p0, v0⟩, ⟨p1, v1⟩⟩ := O5.out.cell_two
                 clear hfz hfz5 O6
                 go_wp2_with fail
                 go_ret
                 exact ⟨_, _, _, rs, rfl, by omega, O7.out.fr, C5.out.more (by omega), G6.out⟩)
        · have hxb : decide (x < e) = false := decide_eq_false (by omega)
          (go_wp2_with fail; (go_at_call 96; refine (cur_among wr _ S (K + 40) [400, 350, 0] (fun r => True) _ _ (HC.out.more (by omega)) (by omega) rfl rfl (by decide) (by decide) (by decide)).mono ?_; rintro e w1 ⟨r, rp, rfl, hC, hG⟩; have Cw1 := Lib.hid hC; have Gw1 := Lib.hid hG; have Zw1 := hG.size; clear hC hG); have O1 := Lib.hid (HO.out.genG Gw1.out hg); have G1 := Lib.hid (only_trans HG.out Gw1.out); have hz1 := G1.out.size; go_wp2_with (at_builtin; refine wp_app_GroundPoint1 rfl (.tmp 40) (.tmp 46) rfl w1 w.heap.size (.slice A' m c') rows' e r rfl O1.out rfl m HL.out (by omega) hz1 ?_; intro A2 c2 w2 ho2 hb2; have O2 := Lib.hid ho2; have C2 := Lib.hid (Cw1.out.belowB hb2 hg); have G2 := Lib.hid (grown_below G1.out hb2); clear ho2 hb2); (go_at_call 125; (with_reducible refine (cur_pick w2 _ S (K + 40 + 2) (32) (C2.out) (by omega) (by omega) (by omega)).mono ?_); rintro e w3 ⟨t, ⟨t0, t1⟩, rfl, hC, hG⟩; have Cw3 := Lib.hid hC; have Gw3 := Lib.hid hG; have Zw3 := hG.size; clear hC hG); have O3 := Lib.hid (O2.out.genG Gw3.out hg); have G3 := Lib.hid (only_trans G2.out Gw3.out); have hcap := O3.out.cap; have hrl := O3.out.lenG; obtain ⟨b, eA, hbB, hbs, hfz⟩ := O3.out.head; subst eA)
          go_wp2_with fail
          all_goals first
            | (go_ret
               exact ⟨_, _, _, _, rfl, by omega, by have hx := O3.out.drop1; first | (rw [if_neg (by omega)] at hx; exact hx) | (simpa [*] using hx), Cw3.out.more (by omega), G3.out⟩)
            | (go_ret
               exact ⟨_, _, _, _, rfl, by omega, O3.out.fr, Cw3.out.more (by omega), G3.out⟩)
            | ((go_at_call 96; refine (cur_among w3 _ S (K + 40 + 2 + 2) [0, 1] (fun r => True) _ _ (Cw3.out) (by omega) rfl rfl (by decide) (by decide) (by decide)).mono ?_; rintro e w4 ⟨a, ap, rfl, hC, hG⟩; have Cw4 := Lib.hid hC; have Gw4 := Lib.hid hG; have Zw4 := hG.size; clear hC hG)
               go_wp2_with fail
               (go_at_call 96; refine (cur_among w4 _ S (K + 40 + 2 + 2 + 2) [-1, 2000, 2001] (fun r => True) _ _ (Cw4.out) (by omega) rfl rfl (by decide) (by decide) (by decide)).mono ?_; rintro e w5 ⟨z, zp, rfl, hC, hG⟩; have Cw5 := Lib.hid hC; have Gw5 := Lib.hid hG; have Zw5 := hG.size; clear hC hG)
               have O5 := Lib.hid ((O3.out.genG Gw4.out hg).genG Gw5.out hg)
               have G5 := Lib.hid (only_trans G3.out (only_trans Gw4.out Gw5.out))
               have hgb : g < b := by omega
               have C5 := Lib.hid ((Cw5.out.far (p := ⟨b, 0, none⟩) hgb (.int .i64 a)).far (p := ⟨b, 1, none⟩) hgb (.int .i64 z))
               have G6 := Lib.hid (only_setCell (only_setCell G5.out (p := ⟨b, 0, none⟩) (.inr hbB) (.int .i64 a)) (p := ⟨b, 1, none⟩) (.inr hbB) (.int .i64 z))
               obtain ⟨_, e5, _, hbs5, hfz5⟩ := O5.out.head
               injection e5 with e5
               injection e5 with e5
               subst e5
               have f0 := hfz5 0
               have f1 := hfz5 1
               obtain ⟨rs, O6⟩ := O5.out.put2h a z
               have O7 := Lib.hid O6
               obtain ⟨⟨p0, v0⟩, ⟨p1, v1⟩⟩ := O5.out.cell_two
               clear hfz hfz5 O6
               go_wp2_with fail
               go_ret
               exact ⟨_, _, _, rs, rfl, by omega, O7.out.fr, C5.out.more (by omega), G6.out⟩)
end Go.Proofs.Ytjfmicemnoglkaa
namespace Go.Proofs.Ytjfmicemnoglkaa
open Go.RowKit
set_option linter.unusedVariables false
set_option linter.unusedSimpArgs false

def GenLRG (w : World) (e : Ending) (w' : World) : Prop := ∃ A c rows, ∃ x p : Int, ∃ A2 n2 c2 g2, e = .returned (.tuple #[.slice A rows.length c, .agg #[.int .i64 x, .int .i64 p], .slice A2 n2 c2]) ∧ rows.length ≤ 10 ∧ n2 ≤ 8 ∧ OwL w' w.heap.size (.slice A rows.length c) rows ∧ FrR w' w.heap.size A2 n2 g2 ∧ Below w.heap.size w w'
def GenLRGI (w : World) (e : Ending) (w' : World) : Prop := ∃ A c rows, ∃ x p : Int, ∃ A2 n2 c2 g2, ∃ a : Int, e = .returned (.tuple #[.slice A rows.length c, .agg #[.int .i64 x, .int .i64 p], .slice A2 n2 c2, .int .i64 a]) ∧ rows.length ≤ 10 ∧ n2 ≤ 8 ∧ OwL w' w.heap.size (.slice A rows.length c) rows ∧ FrR w' w.heap.size A2 n2 g2 ∧ Below w.heap.size w w'
def GenLG (w : World) (e : Ending) (w' : World) : Prop := ∃ A c rows, ∃ A2 n2 c2 g2, e = .returned (.tuple #[.slice A rows.length c, .slice A2 n2 c2]) ∧ rows.length ≤ 10 ∧ n2 ≤ 8 ∧ OwL w' w.heap.size (.slice A rows.length c) rows ∧ FrR w' w.heap.size A2 n2 g2 ∧ Below w.heap.size w w'
set_option maxHeartbeats 1000000 in
theorem draw_IsGround (w : World) (S : Src) (h : S.ok w) : Calls Try.prog 47 #[.slice S.A S.n S.c] w (GenLG w) := by
  have H := Lib.hid (Cur.new h)
  clear h
  go_enter Try.func47, Try.ntmps47
  (go_wp2_with fail; refine (cur_line _ _ S 0 H.out (by omega)).mono ?_; rintro e w1 ⟨A, c, rows, rfl, hl, ho, hC, hG⟩; have HO := Lib.hid ho; have HC := Lib.hid hC; have HG := Lib.hid hG; clear ho hC hG)
  have hs1 := HG.out.size
  simp at hs1
  go_wp2_with fail
  (go_at_call 120; refine (cur_ground w1 _ S (300) _ _ _ _ _ HC.out (by omega) HO.out (by omega)).mono ?_; rintro e w2 ⟨A2, n2, c2, g2, rfl, hn2, hf2, hC, hG⟩; have Cw2 := Lib.hid hC; have Gw2 := Lib.hid hG; have Zw2 := hG.size; have Fw2 := Lib.hid hf2; clear hC hG hf2)
  have HO3 := Lib.hid (HO.out.gen Gw2.out (by simp))
  have G3 := Lib.hid (only_trans HG.out Gw2.out)
  go_wp2_with fail
  go_ret2
  exact ⟨A, c, rows, A2, n2, c2, g2, rfl, hl, hn2, HO3.out.base (by simp), Fw2.out.base (by omega), below_gen G3.out⟩
set_option maxHeartbeats 1000000 in
theorem draw_LowestClearance (w : World) (S : Src) (h : S.ok w) : Calls Try.prog 40 #[.slice S.A S.n S.c] w (GenLRG w) := by
  have H := Lib.hid (gen_start2 w S 26 h)
  clear h
  go_enter Try.func40, Try.ntmps40
  (go_wp2_with fail; refine (cur_line _ _ S 0 H.out.1 (by omega)).mono ?_; rintro e w1 ⟨A, c, rows, rfl, hl, ho, hC, hG⟩; have HO := Lib.hid ho; have HC := Lib.hid hC; have HG := Lib.hid hG; clear ho hC hG)
  have hs1 := HG.out.size
  simp at hs1
  go_wp2_with fail
  (go_at_call 94; refine (cur_rope w1 _ S (300) HC.out (by omega)).mono ?_; rintro e w2 ⟨x, p, rfl, hC, hG⟩; have Cw2 := Lib.hid hC; have Gw2 := Lib.hid hG; have Zw2 := hG.size; clear hC hG)
  have HO2 := Lib.hid (HO.out.gen Gw2.out (by simp))
  go_wp2_with fail
  (go_at_call 120; refine (cur_ground w2 _ S (300 + 10) _ _ _ _ _ Cw2.out (by omega) HO2.out (by omega)).mono ?_; rintro e w3 ⟨A2, n2, c2, g2, rfl, hn2, hf2, hC, hG⟩; have Cw3 := Lib.hid hC; have Gw3 := Lib.hid hG; have Zw3 := hG.size; have Fw3 := Lib.hid hf2; clear hC hG hf2)
  have HO3 := Lib.hid (HO2.out.gen Gw3.out (by simp))
  have G3 := Lib.hid (only_trans HG.out (only_trans Gw2.out Gw3.out))
  have QB := Lib.hid (H.out.2.1.grown G3.out (by intro e; injection e with e; omega))
  obtain ⟨k0, k1⟩ := QB.out.cells2
  have f0 := QB.out.frozen 0
  have f1 := QB.out.frozen 1
  go_wp2_with fail
  go_light
  obtain ⟨p1, p2⟩ := box_put2 (x0 := .int .i64 x) (x1 := .int .i64 p) (below_gen2 H.out.2.2 G3.out (Nat.le_succ _)) (Nat.le_refl _) QB.out
  obtain ⟨e0, e1⟩ := p2.cells2
  refine bodyPost_ret (v := .tuple #[.slice A rows.length c, .agg #[.int .i64 x, .int .i64 p], .slice A2 n2 c2]) ?_ rfl ⟨A, c, rows, x, p, A2, n2, c2, g2, rfl, hl, hn2, (HO3.out.far2 (by simp; omega) _ _).base (by simp; omega), (Fw3.out.far2 (by omega) _ _).base (by omega), p1⟩
  simp [results, Try.results40, go_sem, e0, e1]
set_option maxHeartbeats 1000000 in
theorem draw_ClearanceAt (w : World) (S : Src) (h : S.ok w) : Calls Try.prog 45 #[.slice S.A S.n S.c] w (GenLRGI w) := by
  have H := Lib.hid (gen_start2 w S 26 h)
  clear h
  go_enter Try.func45, Try.ntmps45
  (go_wp2_with fail; refine (cur_line _ _ S 0 H.out.1 (by omega)).mono ?_; rintro e w1 ⟨A, c, rows, rfl, hl, ho, hC, hG⟩; have HO := Lib.hid ho; have HC := Lib.hid hC; have HG := Lib.hid hG; clear ho hC hG)
  have hs1 := HG.out.size
  simp at hs1
  go_wp2_with fail
  (go_at_call 94; refine (cur_rope w1 _ S (300) HC.out (by omega)).mono ?_; rintro e w2 ⟨x, p, rfl, hC, hG⟩; have Cw2 := Lib.hid hC; have Gw2 := Lib.hid hG; have Zw2 := hG.size; clear hC hG)
  have HO2 := Lib.hid (HO.out.gen Gw2.out (by simp))
  go_wp2_with fail
  (go_at_call 120; refine (cur_ground w2 _ S (300 + 10) _ _ _ _ _ Cw2.out (by omega) HO2.out (by omega)).mono ?_; rintro e w3 ⟨A2, n2, c2, g2, rfl, hn2, hf2, hC, hG⟩; have Cw3 := Lib.hid hC; have Gw3 := Lib.hid hG; have Zw3 := hG.size; have Fw3 := Lib.hid hf2; clear hC hG hf2)
  have HO3 := Lib.hid (HO2.out.gen Gw3.out (by simp))
  go_wp2_with fail
  (go_at_call 95; refine (cur_placeOf w3 _ S (300 + 10 + 60) _ _ _ _ _ Cw3.out (by omega) HO3.out (by first | omega | (simp; omega) | simp) (by omega)).mono ?_; rintro e w4 ⟨a, _, rfl, hC, hG⟩; have Cw4 := Lib.hid hC; have Gw4 := Lib.hid hG; have Zw4 := hG.size; clear hC hG)
  have HO4 := Lib.hid (HO3.out.gen Gw4.out (by simp))
  have F4 := Lib.hid (Fw3.out.gen Gw4.out (by omega))
  have G4 := Lib.hid (only_trans HG.out (only_trans Gw2.out (only_trans Gw3.out Gw4.out)))
  have QB := Lib.hid (H.out.2.1.grown G4.out (by intro e; injection e with e; omega))
  obtain ⟨k0, k1⟩ := QB.out.cells2
  have f0 := QB.out.frozen 0
  have f1 := QB.out.frozen 1
  go_wp2_with fail
  go_light
  obtain ⟨p1, p2⟩ := box_put2 (x0 := .int .i64 x) (x1 := .int .i64 p) (below_gen2 H.out.2.2 G4.out (Nat.le_succ _)) (Nat.le_refl _) QB.out
  obtain ⟨e0, e1⟩ := p2.cells2
  refine bodyPost_ret (v := .tuple #[.slice A rows.length c, .agg #[.int .i64 x, .int .i64 p], .slice A2 n2 c2, .int .i64 a]) ?_ rfl ⟨A, c, rows, x, p, A2, n2, c2, g2, a, rfl, hl, hn2, (HO4.out.far2 (by simp; omega) _ _).base (by simp; omega), (F4.out.far2 (by omega) _ _).base (by omega), p1⟩
  simp [results, Try.results45, go_sem, e0, e1]
set_option maxHeartbeats 1000000 in
theorem draw_TowerAngle (w : World) (S : Src) (h : S.ok w) : Calls Try.prog 49 #[.slice S.A S.n S.c] w (GenLRI w) := by
  have H := Lib.hid (gen_start2 w S 26 h)
  clear h
  go_enter Try.func49, Try.ntmps49
  (go_wp2_with fail; refine (cur_line _ _ S 0 H.out.1 (by omega)).mono ?_; rintro e w1 ⟨A, c, rows, rfl, hl, ho, hC, hG⟩; have HO := Lib.hid ho; have HC := Lib.hid hC; have HG := Lib.hid hG; clear ho hC hG)
  have hs1 := HG.out.size
  simp at hs1
  have u1 : IntKind.i64.wrap ((rows.length : Int) + 1) = (rows.length : Int) + 1 := IntWalk.i64_in _ (by omega)
  go_wp2_with fail
  (go_at_call 94; refine (cur_rope w1 _ S (300) HC.out (by omega)).mono ?_; rintro e w2 ⟨x, p, rfl, hC, hG⟩; have Cw2 := Lib.hid hC; have Gw2 := Lib.hid hG; have Zw2 := hG.size; clear hC hG)
  have HO2 := Lib.hid (HO.out.gen Gw2.out (by simp))
  go_wp2_with fail
  (go_at_call 125; (with_reducible refine (cur_pick w2 _ S (300 + 10) ((rows.length : Int) + 1) (Cw2.out) (by omega) (by omega) (by omega)).mono ?_); rintro e w3 ⟨i, ⟨i0, i1⟩, rfl, hC, hG⟩; have Cw3 := Lib.hid hC; have Gw3 := Lib.hid hG; have Zw3 := hG.size; clear hC hG)
  have HO3 := Lib.hid (HO2.out.gen Gw3.out (by simp))
  go_wp2_with fail
  (go_at_call 125; (with_reducible refine (cur_pick w3 _ S (300 + 10 + 2) (9) (Cw3.out) (by omega) (by omega) (by omega)).mono ?_); rintro e w4 ⟨j, ⟨j0, j1⟩, rfl, hC, hG⟩; have Cw4 := Lib.hid hC; have Gw4 := Lib.hid hG; have Zw4 := hG.size; clear hC hG)
  have HO4 := Lib.hid (HO3.out.gen Gw4.out (by simp))
  have G4 := Lib.hid (only_trans HG.out (only_trans Gw2.out (only_trans Gw3.out Gw4.out)))
  have QB := Lib.hid (H.out.2.1.grown G4.out (by intro e; injection e with e; omega))
  obtain ⟨k0, k1⟩ := QB.out.cells2
  have f0 := QB.out.frozen 0
  have f1 := QB.out.frozen 1
  go_wp2_with fail
  go_light
  obtain ⟨p1, p2⟩ := box_put2 (x0 := .int .i64 x) (x1 := .int .i64 p) (below_gen2 H.out.2.2 G4.out (Nat.le_succ _)) (Nat.le_refl _) QB.out
  obtain ⟨e0, e1⟩ := p2.cells2
  refine bodyPost_ret (v := .tuple #[.slice A rows.length c, .agg #[.int .i64 x, .int .i64 p], .int .i64 (i - j / 8)]) ?_ rfl ⟨A, c, rows, x, p, i - j / 8, rfl, hl, (HO4.out.far2 (by simp; omega) _ _).base (by simp; omega), p1⟩
  simp [results, Try.results49, go_sem, e0, e1]
end Go.Proofs.Ytjfmicemnoglkaa
