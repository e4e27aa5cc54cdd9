/- Circles that are drawn. -/
import Derived.Test.YtidjgbonlejhhaaDraw
import Derived.Test.YtidjgbonlejhhaaCircP
import Derived.Deep.RegionLaw
namespace Go.Proofs.Ytidjgbonlejhhaa
open Go.RowKit
set_option linter.unusedVariables false
set_option linter.unusedSimpArgs false

theorem wp_app_intG {ops : Array Oper} {rest : List Oper} {o : Oper} {a : Act} {Q : Exit → Act → World → Prop} (hgd : o.guard = none) (s x : Operand)
    (ho : o.op = .call { callee := .builtin .append, args := #[s, x], argTypes := #[22, 22] }) (w : World) (B : Nat) (v : Value) (zs : List Int) (z : Int)
    (hs : a.eval s = v) (hown : Ow w B v zs) (hx : a.eval x = .slice (some ⟨w.heap.size, 0, none⟩) 1 1) (m : Nat) (hm : zs.length = m) (hl : m < 1099511627776) (hB : B ≤ w.heap.size)
    (h : ∀ A c w', Ow w' B (.slice A (m + 1) c) (zs ++ [z]) → w.grownBy w' v.ownBlock → wpList Try.prog ops Q rest (a.put o.dst (.slice A (m + 1) c)) w') :
    wpList Try.prog ops Q (o :: rest) a (w.alloc (.cells #[.int .i64 z] 3)) := by
  subst hm
  obtain ⟨i0, hi0, hz0, hz1, hz2⟩ := info_parts info_int
  have hrd : Rd (w.alloc (.cells #[.int .i64 z] 3)) 1 (some ⟨w.heap.size, 0, none⟩) 1 [.int .i64 z] := by
    have := Rd.of_block (n := 1) (size := 1) (heap_alloc_new w (.cells #[.int .i64 z] 3)) rfl
    simpa using this
  refine wpList_append_any _ hgd s x _ ho B 3 i0 (.int .i64 0) 1 8 Try.underlying22 hi0 hz0 hz1 hz2 rfl (by omega) v zs.length (IV zs) hs (World.ownsRow.alloc hown _) _ 1 1 [.int .i64 z] hx hrd (by simp [Value.oneCell'])
    (by simp only [maxLen]; omega) (by omega) (by simp; omega) ?_
  intro A' c' w' hown' hg
  exact h A' c' w' (by simpa [Ow] using hown') (only_trans (only_alloc (World.grownBy.refl w _) _) hg)
theorem step_app_intG1 {ops : Array Oper} {o : Oper} {a : Act} {K : Act → World → Prop} {Q : Exit → Act → World → Prop} {E : Prop} (hgd : o.guard = none) (s x : Operand)
    (ho : o.op = .call { callee := .builtin .append, args := #[s, x], argTypes := #[22, 22] }) (w : World) (B : Nat) (v : Value) (zs : List Int) (z : Int)
    (hs : a.eval s = v) (hown : Ow w B v zs) (hx : a.eval x = .slice (some ⟨w.heap.size, 0, none⟩) 1 1) (m : Nat) (hm : zs.length = m) (hl : m < 1000000) (hB : B ≤ w.heap.size)
    (h : ∀ A' c' w', Ow w' B (.slice A' (m + 1) c') (zs ++ [z]) → w.grownBy w' v.ownBlock → K (a.put o.dst (.slice A' (m + 1) c')) w') :
    if Region.wanted o (yielded ops a.tmps) = true then Oper.wp Try.prog o a (w.alloc (.cells #[.int .i64 z] 3)) K Q else E := by
  subst hm
  refine step_app_intsG hgd s x ho (w.alloc (.cells #[.int .i64 z] 3)) B v zs hs (hown.alloc _) (some ⟨w.heap.size, 0, none⟩) 1 1 [z] hx (rd_one w z) (show zs.length + 1 < 1099511627776 by omega) (Nat.le_trans hB (by simp)) ?_
  intro A' c' w' ho' hg
  have e : (zs ++ [z]).length = zs.length + 1 := by simp
  rw [e] at ho' ⊢
  exact h A' c' w' ho' (only_trans (only_alloc (World.grownBy.refl w _) _) hg)
theorem cur_seconds (w : World) (g : Nat) (S : Src) (K : Nat) (h : Cur w g S K) (hK : K ≤ 900000) :
    Calls Try.prog 69 #[.pointer (some ⟨g, 0, none⟩)] w (Drew w g S (K + 2) fun r => -1 ≤ r ∧ r ≤ 100001) := by
  have H := Lib.hid h
  clear h
  go_enter Try.func69, Try.ntmps69
  go_wp2_with (go_at_call 78; refine (cur_among w _ S (K) [0, 1, 5, 20, 100, 333, 7777, 100000, 100001, -1] (fun r => -1 ≤ r ∧ r ≤ 100001) _ _ (H.out) (by omega) rfl rfl (by decide) (by decide) (by decide)).mono ?_; rintro e w1 ⟨r, rp, rfl, hC, hG⟩; have Cw1 := Lib.hid hC; have Gw1 := Lib.hid hG; have Zw1 := hG.size; clear hC hG)
  go_ret
  exact Drew.mk rp rfl Cw1.out Gw1.out
/-- A circle that was drawn. -/
def DrewC (w : World) (g : Nat) (S : Src) (K : Nat) (e : Ending) (w' : World) : Prop :=
  ∃ l s A c zs, e = .returned (.agg #[.int .i64 l, .int .i64 s, .slice A zs.length c]) ∧ zs.length ≤ 20 ∧ 9 ≤ l ∧ l ≤ 4001 ∧ Ow w' w.heap.size (.slice A zs.length c) zs ∧ Cur w' g S K ∧ w.grownBy w' (some g)
/-- The state between the statements of 'circle': g the generator, q the result's box, p the circle's box. -/
def CS (w wr : World) (g q p : Nat) (S : Src) (K : Nat) (l s : Int) (A : Option Addr) (m c : Nat) (zs : List Int) : Prop :=
  Cur wr g S K ∧ w.grownBy wr (some g) ∧ Blk wr q 27 #[.int .i64 0, .int .i64 0, .slice none 0 0] ∧ Blk wr p 27 #[.int .i64 l, .int .i64 s, .slice A m c] ∧ Ow wr w.heap.size (.slice A m c) zs ∧ g < w.heap.size ∧ w.heap.size ≤ q ∧ q < p
section
variable {w wr w' : World} {g q p : Nat} {S : Src} {K : Nat} {l s : Int} {A : Option Addr} {m c : Nat} {zs : List Int}
theorem CS.call {K' : Nat} (h : CS w wr g q p S K l s A m c zs) (hC : Cur w' g S K') (hG : wr.grownBy w' (some g)) : CS w w' g q p S K' l s A m c zs := by
  obtain ⟨h1, h2, h3, h4, h5, h6, h7, h8⟩ := h
  exact ⟨hC, only_trans h2 hG, h3.grown hG (by intro e; injection e with e; omega), h4.grown hG (by intro e; injection e with e; omega), h5.gen hG h6, h6, h7, h8⟩
theorem CS.cur (h : CS w wr g q p S K l s A m c zs) : Cur wr g S K := h.1
theorem CS.grown (h : CS w wr g q p S K l s A m c zs) : w.grownBy wr (some g) := h.2.1
theorem CS.boxP (h : CS w wr g q p S K l s A m c zs) : Blk wr p 27 #[.int .i64 l, .int .i64 s, .slice A m c] := h.2.2.2.1
theorem CS.own (h : CS w wr g q p S K l s A m c zs) : Ow wr w.heap.size (.slice A m c) zs := h.2.2.2.2.1
theorem CS.more {K' : Nat} (h : CS w wr g q p S K l s A m c zs) (hk : K ≤ K') : CS w wr g q p S K' l s A m c zs := h.call (h.1.more hk) (World.grownBy.refl _ _)
theorem CS.alloc (h : CS w wr g q p S K l s A m c zs) (o : Obj) : CS w (wr.alloc o) g q p S K l s A m c zs := h.call (h.1.alloc o) (only_alloc (World.grownBy.refl wr _) o)
theorem CS.set1 (h : CS w wr g q p S K l s A m c zs) (l' : Int) : CS w (wr.setCell ⟨p, 0, none⟩ (.int .i64 l')) g q p S K l' s A m c zs := by
  obtain ⟨h1, h2, h3, h4, h5, h6, h7, h8⟩ := h
  refine ⟨h1.far (by simp; omega) _, only_setCell h2 (.inr (by simp; omega)) _, h3.far (by simp; omega) _, ?_, h5.boxed h4 0 _, h6, h7, h8⟩
  simpa using h4.set_ 0 (.int .i64 l')
theorem CS.set2 (h : CS w wr g q p S K l s A m c zs) (s' : Int) : CS w (wr.setCell ⟨p, 1, none⟩ (.int .i64 s')) g q p S K l s' A m c zs := by
  obtain ⟨h1, h2, h3, h4, h5, h6, h7, h8⟩ := h
  refine ⟨h1.far (by simp; omega) _, only_setCell h2 (.inr (by simp; omega)) _, h3.far (by simp; omega) _, ?_, h5.boxed h4 1 _, h6, h7, h8⟩
  simpa using h4.set_ 1 (.int .i64 s')
/-- A number appended, and the slice stored. -/
theorem CS.app {x : Int} {A' : Option Addr} {c' : Nat} (h : CS w wr g q p S K l s A m c zs) (ho : Ow w' w.heap.size (.slice A' (m + 1) c') (zs ++ [x])) (hG : wr.grownBy w' (Value.slice A m c).ownBlock) :
    CS w (w'.setCell ⟨p, 2, none⟩ (.slice A' (m + 1) c')) g q p S K l s A' (m + 1) c' (zs ++ [x]) := by
  obtain ⟨h1, h2, h3, h4, h5, h6, h7, h8⟩ := h
  have hge : ∀ k, (Value.slice A m c).ownBlock = some k → w.heap.size ≤ k := h5.block_ge
  have b3 : Blk w' q 27 #[.int .i64 0, .int .i64 0, .slice none 0 0] := h3.grown hG (fun e => own_blk_ne h5 h3 (by decide) e.symm)
  have b4 : Blk w' p 27 #[.int .i64 l, .int .i64 s, .slice A m c] := h4.grown hG (fun e => own_blk_ne h5 h4 (by decide) e.symm)
  have h2' : w.grownBy w' (some g) := ⟨hG.os.trans h2.os, hG.tape.trans h2.tape, hG.output.trans h2.output, Nat.le_trans h2.size hG.size, fun i hi hne => (hG.block i (Nat.lt_of_lt_of_le hi h2.size) (fun e => by have := hge i e.symm; omega)).trans (h2.block i hi hne)⟩
  have h1' : Cur w' g S K := h1.other hG (fun k hk => by have := hge k hk; omega)
  refine ⟨h1'.far (by simp; omega) _, only_setCell h2' (.inr (by simp; omega)) _, b3.far (by simp; omega) _, ?_, ho.boxed b4 2 _, h6, h7, h8⟩
  simpa using b4.set_ 2 (.slice A' (m + 1) c')
theorem CS.frozen_grown {x : Int} {A' : Option Addr} {c' : Nat} (h : CS w wr g q p S K l s A m c zs) (ho : Ow w' w.heap.size (.slice A' (m + 1) c') (zs ++ [x])) (hG : wr.grownBy w' (Value.slice A m c).ownBlock) : w'.frozen? ⟨p, 2, none⟩ = false ∧ w'.cell? ⟨p, 2, none⟩ = some (.slice A m c) ∧ p < w'.heap.size := by
  have hb := h.2.2.2.1.grown hG (fun e => own_blk_ne h.2.2.2.2.1 h.2.2.2.1 (by decide) e.symm)
  exact ⟨hb.frozen 2, by simpa using hb.cell 2, hb.lt⟩
theorem CS.app_cells {x : Int} {A' : Option Addr} {c' : Nat} (h : CS w wr g q p S K l s A m c zs) (ho : Ow w' w.heap.size (.slice A' (m + 1) c') (zs ++ [x])) (hG : wr.grownBy w' (Value.slice A m c).ownBlock) :
    (w'.cell? ⟨p, 0, none⟩ = some (.int .i64 l) ∧ w'.cell? ⟨p, 1, none⟩ = some (.int .i64 s) ∧ w'.cell? ⟨p, 2, none⟩ = some (.slice A m c)) ∧ (w'.frozen? ⟨p, 0, none⟩ = false ∧ w'.frozen? ⟨p, 1, none⟩ = false ∧ w'.frozen? ⟨p, 2, none⟩ = false) ∧
    (w'.cell? ⟨q, 0, none⟩ = some (.int .i64 0) ∧ w'.cell? ⟨q, 1, none⟩ = some (.int .i64 0) ∧ w'.cell? ⟨q, 2, none⟩ = some (.slice none 0 0)) ∧ (w'.frozen? ⟨q, 0, none⟩ = false ∧ w'.frozen? ⟨q, 1, none⟩ = false ∧ w'.frozen? ⟨q, 2, none⟩ = false) ∧ p < w'.heap.size ∧ q < w'.heap.size := by
  have h4 := h.2.2.2.1.grown hG (fun e => own_blk_ne h.2.2.2.2.1 h.2.2.2.1 (by decide) e.symm)
  have h3 := h.2.2.1.grown hG (fun e => own_blk_ne h.2.2.2.2.1 h.2.2.1 (by decide) e.symm)
  exact ⟨⟨by simpa using h4.cell 0, by simpa using h4.cell 1, by simpa using h4.cell 2⟩, ⟨h4.frozen 0, h4.frozen 1, h4.frozen 2⟩, ⟨by simpa using h3.cell 0, by simpa using h3.cell 1, by simpa using h3.cell 2⟩, ⟨h3.frozen 0, h3.frozen 1, h3.frozen 2⟩, h4.lt, h3.lt⟩
theorem CS.cells (h : CS w wr g q p S K l s A m c zs) : (wr.cell? ⟨p, 0, none⟩ = some (.int .i64 l) ∧ wr.cell? ⟨p, 1, none⟩ = some (.int .i64 s) ∧ wr.cell? ⟨p, 2, none⟩ = some (.slice A m c)) ∧ (wr.frozen? ⟨p, 0, none⟩ = false ∧ wr.frozen? ⟨p, 1, none⟩ = false ∧ wr.frozen? ⟨p, 2, none⟩ = false) ∧
    (wr.cell? ⟨q, 0, none⟩ = some (.int .i64 0) ∧ wr.cell? ⟨q, 1, none⟩ = some (.int .i64 0) ∧ wr.cell? ⟨q, 2, none⟩ = some (.slice none 0 0)) ∧ (wr.frozen? ⟨q, 0, none⟩ = false ∧ wr.frozen? ⟨q, 1, none⟩ = false ∧ wr.frozen? ⟨q, 2, none⟩ = false) ∧ q ≠ p ∧ p ≠ q ∧ p < wr.heap.size ∧ q < wr.heap.size := by
  obtain ⟨h1, h2, h3, h4, h5, h6, h7, h8⟩ := h
  refine ⟨⟨by simpa using h4.cell 0, by simpa using h4.cell 1, by simpa using h4.cell 2⟩, ⟨h4.frozen 0, h4.frozen 1, h4.frozen 2⟩, ⟨by simpa using h3.cell 0, by simpa using h3.cell 1, by simpa using h3.cell 2⟩, ⟨h3.frozen 0, h3.frozen 1, h3.frozen 2⟩, by omega, by omega, h4.lt, h3.lt⟩
/-- The circle is handed back. -/
theorem CS.fin {K' : Nat} (h : CS w wr g q p S K l s A m c zs) (hm : m ≤ 20) (hK : K ≤ K') (hl0 : 9 ≤ l) (hl1 : l ≤ 4001) :
    DrewC w g S K' (.returned (.agg #[.int .i64 l, .int .i64 s, .slice A m c])) (((wr.setCell ⟨q, 0, none⟩ (.int .i64 l)).setCell ⟨q, 1, none⟩ (.int .i64 s)).setCell ⟨q, 2, none⟩ (.slice A m c)) := by
  obtain ⟨h1, h2, h3, h4, h5, h6, h7, h8⟩ := h
  obtain rfl := h5.len
  refine ⟨l, s, A, c, zs, rfl, hm, hl0, hl1, ((h5.boxed h3 0 _).boxed (h3.set_ 0 _) 1 _).boxed ((h3.set_ 0 _).set_ 1 _) 2 _, ?_, ?_⟩
  · exact ((((h1.far (by simp; omega) _).far (by simp; omega) _).far (by simp; omega) _).more hK)
  · exact only_setCell (only_setCell (only_setCell h2 (.inr (by simp; omega)) _) (.inr (by simp; omega)) _) (.inr (by simp; omega)) _
theorem CS.finB (h : CS w wr g q p S K l s A m c zs) :
    (((wr.setCell ⟨q, 0, none⟩ (.int .i64 l)).setCell ⟨q, 1, none⟩ (.int .i64 s)).setCell ⟨q, 2, none⟩ (.slice A m c)).cell? ⟨q, 0, none⟩ = some (.int .i64 l) ∧
    (((wr.setCell ⟨q, 0, none⟩ (.int .i64 l)).setCell ⟨q, 1, none⟩ (.int .i64 s)).setCell ⟨q, 2, none⟩ (.slice A m c)).cell? ⟨q, 1, none⟩ = some (.int .i64 s) ∧
    (((wr.setCell ⟨q, 0, none⟩ (.int .i64 l)).setCell ⟨q, 1, none⟩ (.int .i64 s)).setCell ⟨q, 2, none⟩ (.slice A m c)).cell? ⟨q, 2, none⟩ = some (.slice A m c) := by
  have hb := ((h.2.2.1.set_ 0 (.int .i64 l)).set_ 1 (.int .i64 s)).set_ 2 (.slice A m c)
  exact ⟨by simpa using hb.cell 0, by simpa using hb.cell 1, by simpa using hb.cell 2⟩
theorem CS.drew (h : CS w wr g q p S K l s A m c zs) : CS w wr.drew g q p S K l s A m c zs := h.call h.1 (only_drew (World.grownBy.refl wr _))
end
/-- The state at the first loop. -/
theorem CS.start {w w1 w2 : World} {g : Nat} {S : Src} {K : Nat} {l s : Int} (hg : g < w.heap.size) (hC : Cur w2 g S K)
    (h1 : (w.alloc (.cells #[.int .i64 0, .int .i64 0, .slice none 0 0] 27)).grownBy w1 (some g)) (h2 : w1.grownBy w2 (some g)) :
    CS w ((w2.alloc (.cells #[] 3)).alloc (.cells #[.int .i64 l, .int .i64 s, .slice (some ⟨w2.heap.size, 0, none⟩) 0 0] 27)) g w.heap.size (w2.heap.size + 1) S K l s (some ⟨w2.heap.size, 0, none⟩) 0 0 [] := by
  have hz := h1.size
  have hz2 := h2.size
  simp at hz
  have b1 : Blk w2 w.heap.size 27 #[.int .i64 0, .int .i64 0, .slice none 0 0] := ((Blk.new w _ _).grown h1 (by intro e; injection e with e; omega)).grown h2 (by intro e; injection e with e; omega)
  have e1 : (w2.alloc (.cells #[] 3)).heap.size = w2.heap.size + 1 := by simp
  refine ⟨(hC.alloc _).alloc _, only_alloc (only_alloc (only_trans (only_trans (only_alloc (World.grownBy.refl w _) _) h1) h2) _) _, (b1.alloc _).alloc _, ?_, (Ow.lit0 w2 w.heap.size (by omega)).alloc _, hg, Nat.le_refl _, by omega⟩
  rw [← e1]
  exact Blk.new _ _ _
end Go.Proofs.Ytidjgbonlejhhaa
