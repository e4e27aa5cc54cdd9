/- Drives that are drawn. -/
import Derived.Test.YthijklidjdhkdaaDrawB
import Derived.Test.YthijklidjdhkdaaDrvL
import Derived.Test.YthijklidjdhkdaaFlBrakeC
import Derived.Deep.RegionLaw
namespace Go.Proofs.Ythijklidjdhkdaa
open Go.RowKit
set_option linter.unusedVariables false
set_option linter.unusedSimpArgs false

theorem OwR.boxed {w : World} {B F g : Nat} {e t : TypeId} {v : Value} {rows : List (List Int)} {cs : Array Value} (hne : e ≠ t) (h : OwR w B e F v rows) (hb : Blk w g t cs) (i : Nat) (u : Value) : OwR (w.setCell ⟨g, i, none⟩ u) B e F v rows := by
  exact ⟨own_grown h.1 (row := some g) (only_setCell (g := g) (World.grownBy.refl _ _) (.inl rfl) u) (.inr (own_blk_ne h.1 hb hne)), h.2⟩
theorem OwR.gen {w w' : World} {B : Nat} {t : TypeId} {F : Nat} {v : Value} {rows : List (List Int)} {g : Nat} (h : OwR w B t F v rows) (hg : w.grownBy w' (some g)) (hB : g < B) : OwR w' B t F v rows := h.other hg (fun k hk => by injection hk with hk; omega)
theorem OwR.len_ {w : World} {B : Nat} {t : TypeId} {F : Nat} {A : Option Addr} {n c : Nat} {rows : List (List Int)} (h : OwR w B t F (.slice A n c) rows) : rows.length = n := by
  obtain ⟨A', c', e, _⟩ := h.1.shape
  injection e with e1 e2 e3
  exact e2.symm
/-- 'append(l, b)' of one brake that the walk has just laid in a block of its own: what has grown. -/
theorem wp_app_BrakeG {ops : Array Oper} {rest : List Oper} {o : Oper} {a : Act} {Q : Exit → Act → World → Prop} (hgd : o.guard = none) (s x : Operand)
    (ho : o.op = .call { callee := .builtin .append, args := #[s, x], argTypes := #[27, 27] }) (w : World) (B : Nat) (v : Value) (rows : List (List Int)) (x0 x1 : Int)
    (hs : a.eval s = v) (hown : OwR w B 56 2 v rows) (hx : a.eval x = .slice (some ⟨w.heap.size, 0, none⟩) 1 1) (m : Nat) (hm : rows.length = m) (hl : m < 1000000) (hB : B ≤ w.heap.size)
    (h : ∀ A' c' w', OwR w' B 56 2 (.slice A' (m + 1) c') (rows ++ [[x0, x1]]) → w.grownBy w' v.ownBlock → wpList Try.prog ops Q rest (a.put o.dst (.slice A' (m + 1) c')) w') :
    wpList Try.prog ops Q (o :: rest) a (w.alloc (.cells #[.int .i64 x0, .int .i64 x1] 56)) := by
  subst hm
  obtain ⟨i0, hi0, hz0, hz1, hz2⟩ := info_parts info_Brake
  have hr := RdR.one_Brake x0 x1 w
  have e1 : rows.length + 1 = (rows ++ [[x0, x1]]).length := by simp
  refine wpList_append_any _ hgd s x _ ho B 56 i0 _ 2 16 Try.underlying27 hi0 hz0 hz1 hz2 rfl (by omega) v rows.length (IV rows.flatten) hs (World.ownsRow.alloc hown.1 _) _ 1 1 (IV [[x0, x1]].flatten) hx hr.1 (ints_oneCell _ _)
    (by simp only [maxLen]; omega) (by omega) (by simp; omega) ?_
  intro A' c' w' hown' hg
  have hn := RdR.cat_Brake (n := 1) hown.2 hr.2.1 e1 hown'
  rw [← e1] at hn
  exact h A' c' w' hn (only_trans (only_alloc (World.grownBy.refl w _) _) hg)
theorem step_app_BrakeG {ops : Array Oper} {o : Oper} {a : Act} {K : Act → World → Prop} {Q : Exit → Act → World → Prop} {E : Prop} (hgd : o.guard = none) (s x : Operand)
    (ho : o.op = .call { callee := .builtin .append, args := #[s, x], argTypes := #[27, 27] }) (w : World) (B : Nat) (v : Value) (rows : List (List Int)) (x0 x1 : Int)
    (hs : a.eval s = v) (hown : OwR w B 56 2 v rows) (hx : a.eval x = .slice (some ⟨w.heap.size, 0, none⟩) 1 1) (m : Nat) (hm : rows.length = m) (hl : m < 1000000) (hB : B ≤ w.heap.size)
    (h : ∀ A' c' w', OwR w' B 56 2 (.slice A' (m + 1) c') (rows ++ [[x0, x1]]) → w.grownBy w' v.ownBlock → K (a.put o.dst (.slice A' (m + 1) c')) w') :
    if Region.wanted o (yielded ops a.tmps) = true then Oper.wp Try.prog o a (w.alloc (.cells #[.int .i64 x0, .int .i64 x1] 56)) K Q else E := by
  subst hm
  obtain ⟨i0, hi0, hz0, hz1, hz2⟩ := info_parts info_Brake
  have hr := RdR.one_Brake x0 x1 w
  have e1 : rows.length + 1 = (rows ++ [[x0, x1]]).length := by simp
  refine step_append_any _ hgd s x _ ho B 56 i0 _ 2 16 Try.underlying27 hi0 hz0 hz1 hz2 rfl (by omega) v rows.length (IV rows.flatten) hs (World.ownsRow.alloc hown.1 _) _ 1 1 (IV [[x0, x1]].flatten) hx hr.1 (ints_oneCell _ _)
    (by simp only [maxLen]; omega) (by omega) (by simp; omega) ?_
  intro A' c' w' hown' hg
  have hn := RdR.cat_Brake (n := 1) hown.2 hr.2.1 e1 hown'
  rw [← e1] at hn
  exact h A' c' w' hn (only_trans (only_alloc (World.grownBy.refl w _) _) hg)
/-- A drive that was drawn. -/
def DrewD (w : World) (g : Nat) (S : Src) (K : Nat) (e : Ending) (w' : World) : Prop :=
  ∃ l s A c rows, e = .returned (.agg #[.int .i64 l, .int .i64 s, .slice A rows.length c]) ∧ rows.length ≤ 20 ∧ OwR w' w.heap.size 56 2 (.slice A rows.length c) rows ∧ Cur w' g S K ∧ w.grownBy w' (some g)
/-- The state between the statements of 'drive': g the generator, q the result's box, p the drive's box. -/
def DS (w wr : World) (g q p : Nat) (S : Src) (K : Nat) (l s : Int) (A : Option Addr) (m c : Nat) (rows : List (List Int)) : Prop :=
  Cur wr g S K ∧ w.grownBy wr (some g) ∧ Blk wr q 29 #[.int .i64 0, .int .i64 0, .slice none 0 0] ∧ Blk wr p 29 #[.int .i64 l, .int .i64 s, .slice A m c] ∧ OwR wr w.heap.size 56 2 (.slice A m c) rows ∧ g < w.heap.size ∧ w.heap.size ≤ q ∧ q < p
section
variable {w wr w' : World} {g q p : Nat} {S : Src} {K : Nat} {l s : Int} {A : Option Addr} {m c : Nat} {rows : List (List Int)}
theorem DS.call {K' : Nat} (h : DS w wr g q p S K l s A m c rows) (hC : Cur w' g S K') (hG : wr.grownBy w' (some g)) : DS w w' g q p S K' l s A m c rows := by
  obtain ⟨h1, h2, h3, h4, h5, h6, h7, h8⟩ := h
  exact ⟨hC, only_trans h2 hG, h3.grown hG (by intro e; injection e with e; omega), h4.grown hG (by intro e; injection e with e; omega), h5.gen hG h6, h6, h7, h8⟩
theorem DS.cur (h : DS w wr g q p S K l s A m c rows) : Cur wr g S K := h.1
theorem DS.grown (h : DS w wr g q p S K l s A m c rows) : w.grownBy wr (some g) := h.2.1
theorem DS.boxP (h : DS w wr g q p S K l s A m c rows) : Blk wr p 29 #[.int .i64 l, .int .i64 s, .slice A m c] := h.2.2.2.1
theorem DS.own (h : DS w wr g q p S K l s A m c rows) : OwR wr w.heap.size 56 2 (.slice A m c) rows := h.2.2.2.2.1
theorem DS.more {K' : Nat} (h : DS w wr g q p S K l s A m c rows) (hk : K ≤ K') : DS w wr g q p S K' l s A m c rows := h.call (h.1.more hk) (World.grownBy.refl _ _)
theorem DS.alloc (h : DS w wr g q p S K l s A m c rows) (o : Obj) : DS w (wr.alloc o) g q p S K l s A m c rows := h.call (h.1.alloc o) (only_alloc (World.grownBy.refl wr _) o)
theorem DS.set1 (h : DS w wr g q p S K l s A m c rows) (l' : Int) : DS w (wr.setCell ⟨p, 0, none⟩ (.int .i64 l')) g q p S K l' s A m c rows := by
  obtain ⟨h1, h2, h3, h4, h5, h6, h7, h8⟩ := h
  refine ⟨h1.far (by simp; omega) _, only_setCell h2 (.inr (by simp; omega)) _, h3.far (by simp; omega) _, ?_, h5.boxed (by decide) h4 0 _, h6, h7, h8⟩
  simpa using h4.set_ 0 (.int .i64 l')
theorem DS.set2 (h : DS w wr g q p S K l s A m c rows) (s' : Int) : DS w (wr.setCell ⟨p, 1, none⟩ (.int .i64 s')) g q p S K l s' A m c rows := by
  obtain ⟨h1, h2, h3, h4, h5, h6, h7, h8⟩ := h
  refine ⟨h1.far (by simp; omega) _, only_setCell h2 (.inr (by simp; omega)) _, h3.far (by simp; omega) _, ?_, h5.boxed (by decide) h4 1 _, h6, h7, h8⟩
  simpa using h4.set_ 1 (.int .i64 s')
/-- A number appended, and the slice stored. -/
theorem DS.app {x y : Int} {A' : Option Addr} {c' : Nat} (h : DS w wr g q p S K l s A m c rows) (ho : OwR w' w.heap.size 56 2 (.slice A' (m + 1) c') (rows ++ [[x, y]])) (hG : wr.grownBy w' (Value.slice A m c).ownBlock) :
    DS w (w'.setCell ⟨p, 2, none⟩ (.slice A' (m + 1) c')) g q p S K l s A' (m + 1) c' (rows ++ [[x, y]]) := by
  obtain ⟨h1, h2, h3, h4, h5, h6, h7, h8⟩ := h
  have hge : ∀ k, (Value.slice A m c).ownBlock = some k → w.heap.size ≤ k := h5.block_ge
  have b3 : Blk w' q 29 #[.int .i64 0, .int .i64 0, .slice none 0 0] := h3.grown hG (fun e => own_blk_ne h5.1 h3 (by decide) e.symm)
  have b4 : Blk w' p 29 #[.int .i64 l, .int .i64 s, .slice A m c] := h4.grown hG (fun e => own_blk_ne h5.1 h4 (by decide) e.symm)
  have h2' : w.grownBy w' (some g) := ⟨hG.os.trans h2.os, hG.tape.trans h2.tape, hG.output.trans h2.output, Nat.le_trans h2.size hG.size, fun i hi hne => (hG.block i (Nat.lt_of_lt_of_le hi h2.size) (fun e => by have := hge i e.symm; omega)).trans (h2.block i hi hne)⟩
  have h1' : Cur w' g S K := h1.other hG (fun k hk => by have := hge k hk; omega)
  refine ⟨h1'.far (by simp; omega) _, only_setCell h2' (.inr (by simp; omega)) _, b3.far (by simp; omega) _, ?_, ho.boxed (by decide) b4 2 _, h6, h7, h8⟩
  simpa using b4.set_ 2 (.slice A' (m + 1) c')
theorem DS.frozen_grown {x y : Int} {A' : Option Addr} {c' : Nat} (h : DS w wr g q p S K l s A m c rows) (ho : OwR w' w.heap.size 56 2 (.slice A' (m + 1) c') (rows ++ [[x, y]])) (hG : wr.grownBy w' (Value.slice A m c).ownBlock) : w'.frozen? ⟨p, 2, none⟩ = false ∧ w'.cell? ⟨p, 2, none⟩ = some (.slice A m c) ∧ p < w'.heap.size := by
  have hb := h.2.2.2.1.grown hG (fun e => own_blk_ne h.2.2.2.2.1.1 h.2.2.2.1 (by decide) e.symm)
  exact ⟨hb.frozen 2, by simpa using hb.cell 2, hb.lt⟩
theorem DS.app_cells {x y : Int} {A' : Option Addr} {c' : Nat} (h : DS w wr g q p S K l s A m c rows) (ho : OwR w' w.heap.size 56 2 (.slice A' (m + 1) c') (rows ++ [[x, y]])) (hG : wr.grownBy w' (Value.slice A m c).ownBlock) :
    (w'.cell? ⟨p, 0, none⟩ = some (.int .i64 l) ∧ w'.cell? ⟨p, 1, none⟩ = some (.int .i64 s) ∧ w'.cell? ⟨p, 2, none⟩ = some (.slice A m c)) ∧ (w'.frozen? ⟨p, 0, none⟩ = false ∧ w'.frozen? ⟨p, 1, none⟩ = false ∧ w'.frozen? ⟨p, 2, none⟩ = false) ∧
    (w'.cell? ⟨q, 0, none⟩ = some (.int .i64 0) ∧ w'.cell? ⟨q, 1, none⟩ = some (.int .i64 0) ∧ w'.cell? ⟨q, 2, none⟩ = some (.slice none 0 0)) ∧ (w'.frozen? ⟨q, 0, none⟩ = false ∧ w'.frozen? ⟨q, 1, none⟩ = false ∧ w'.frozen? ⟨q, 2, none⟩ = false) ∧ p < w'.heap.size ∧ q < w'.heap.size := by
  have h4 := h.2.2.2.1.grown hG (fun e => own_blk_ne h.2.2.2.2.1.1 h.2.2.2.1 (by decide) e.symm)
  have h3 := h.2.2.1.grown hG (fun e => own_blk_ne h.2.2.2.2.1.1 h.2.2.1 (by decide) e.symm)
  exact ⟨⟨by simpa using h4.cell 0, by simpa using h4.cell 1, by simpa using h4.cell 2⟩, ⟨h4.frozen 0, h4.frozen 1, h4.frozen 2⟩, ⟨by simpa using h3.cell 0, by simpa using h3.cell 1, by simpa using h3.cell 2⟩, ⟨h3.frozen 0, h3.frozen 1, h3.frozen 2⟩, h4.lt, h3.lt⟩
theorem DS.cells (h : DS w wr g q p S K l s A m c rows) : (wr.cell? ⟨p, 0, none⟩ = some (.int .i64 l) ∧ wr.cell? ⟨p, 1, none⟩ = some (.int .i64 s) ∧ wr.cell? ⟨p, 2, none⟩ = some (.slice A m c)) ∧ (wr.frozen? ⟨p, 0, none⟩ = false ∧ wr.frozen? ⟨p, 1, none⟩ = false ∧ wr.frozen? ⟨p, 2, none⟩ = false) ∧
    (wr.cell? ⟨q, 0, none⟩ = some (.int .i64 0) ∧ wr.cell? ⟨q, 1, none⟩ = some (.int .i64 0) ∧ wr.cell? ⟨q, 2, none⟩ = some (.slice none 0 0)) ∧ (wr.frozen? ⟨q, 0, none⟩ = false ∧ wr.frozen? ⟨q, 1, none⟩ = false ∧ wr.frozen? ⟨q, 2, none⟩ = false) ∧ q ≠ p ∧ p ≠ q ∧ p < wr.heap.size ∧ q < wr.heap.size := by
  obtain ⟨h1, h2, h3, h4, h5, h6, h7, h8⟩ := h
  refine ⟨⟨by simpa using h4.cell 0, by simpa using h4.cell 1, by simpa using h4.cell 2⟩, ⟨h4.frozen 0, h4.frozen 1, h4.frozen 2⟩, ⟨by simpa using h3.cell 0, by simpa using h3.cell 1, by simpa using h3.cell 2⟩, ⟨h3.frozen 0, h3.frozen 1, h3.frozen 2⟩, by omega, by omega, h4.lt, h3.lt⟩
/-- The drive is handed back. -/
theorem DS.fin {K' : Nat} (h : DS w wr g q p S K l s A m c rows) (hm : m ≤ 20) (hK : K ≤ K') :
    DrewD w g S K' (.returned (.agg #[.int .i64 l, .int .i64 s, .slice A m c])) (((wr.setCell ⟨q, 0, none⟩ (.int .i64 l)).setCell ⟨q, 1, none⟩ (.int .i64 s)).setCell ⟨q, 2, none⟩ (.slice A m c)) := by
  obtain ⟨h1, h2, h3, h4, h5, h6, h7, h8⟩ := h
  obtain rfl := h5.len_
  refine ⟨l, s, A, c, rows, rfl, hm, ((h5.boxed (by decide) h3 0 _).boxed (by decide) (h3.set_ 0 _) 1 _).boxed (by decide) ((h3.set_ 0 _).set_ 1 _) 2 _, ?_, ?_⟩
  · exact ((((h1.far (by simp; omega) _).far (by simp; omega) _).far (by simp; omega) _).more hK)
  · exact only_setCell (only_setCell (only_setCell h2 (.inr (by simp; omega)) _) (.inr (by simp; omega)) _) (.inr (by simp; omega)) _
theorem DS.finB (h : DS w wr g q p S K l s A m c rows) :
    (((wr.setCell ⟨q, 0, none⟩ (.int .i64 l)).setCell ⟨q, 1, none⟩ (.int .i64 s)).setCell ⟨q, 2, none⟩ (.slice A m c)).cell? ⟨q, 0, none⟩ = some (.int .i64 l) ∧
    (((wr.setCell ⟨q, 0, none⟩ (.int .i64 l)).setCell ⟨q, 1, none⟩ (.int .i64 s)).setCell ⟨q, 2, none⟩ (.slice A m c)).cell? ⟨q, 1, none⟩ = some (.int .i64 s) ∧
    (((wr.setCell ⟨q, 0, none⟩ (.int .i64 l)).setCell ⟨q, 1, none⟩ (.int .i64 s)).setCell ⟨q, 2, none⟩ (.slice A m c)).cell? ⟨q, 2, none⟩ = some (.slice A m c) := by
  have hb := ((h.2.2.1.set_ 0 (.int .i64 l)).set_ 1 (.int .i64 s)).set_ 2 (.slice A m c)
  exact ⟨by simpa using hb.cell 0, by simpa using hb.cell 1, by simpa using hb.cell 2⟩
theorem DS.drew (h : DS w wr g q p S K l s A m c rows) : DS w wr.drew g q p S K l s A m c rows := h.call h.1 (only_drew (World.grownBy.refl wr _))
end
/-- The state at the first loop. -/
theorem DS.start {w w1 w2 : World} {g : Nat} {S : Src} {K : Nat} {l s : Int} (hg : g < w.heap.size) (hC : Cur w2 g S K)
    (h1 : (w.alloc (.cells #[.int .i64 0, .int .i64 0, .slice none 0 0] 29)).grownBy w1 (some g)) (h2 : w1.grownBy w2 (some g)) :
    DS w ((w2.alloc (.cells #[] 56)).alloc (.cells #[.int .i64 l, .int .i64 s, .slice (some ⟨w2.heap.size, 0, none⟩) 0 0] 29)) g w.heap.size (w2.heap.size + 1) S K l s (some ⟨w2.heap.size, 0, none⟩) 0 0 [] := by
  have hz := h1.size
  have hz2 := h2.size
  simp at hz
  have b1 : Blk w2 w.heap.size 29 #[.int .i64 0, .int .i64 0, .slice none 0 0] := ((Blk.new w _ _).grown h1 (by intro e; injection e with e; omega)).grown h2 (by intro e; injection e with e; omega)
  have e1 : (w2.alloc (.cells #[] 56)).heap.size = w2.heap.size + 1 := by simp
  refine ⟨(hC.alloc _).alloc _, only_alloc (only_alloc (only_trans (only_trans (only_alloc (World.grownBy.refl w _) _) h1) h2) _) _, (b1.alloc _).alloc _, ?_, (OwR.lit0 w2 w.heap.size 56 2 (by omega)).alloc _, hg, Nat.le_refl _, by omega⟩
  rw [← e1]
  exact Blk.new _ _ _
end Go.Proofs.Ythijklidjdhkdaa
