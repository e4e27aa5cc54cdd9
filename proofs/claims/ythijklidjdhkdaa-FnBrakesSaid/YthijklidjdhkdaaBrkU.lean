/- The fewest brakes: the program's: the state of the inner loop. -/
import Derived.Test.YthijklidjdhkdaaBrkT
import Derived.Test.YthijklidjdhkdaaBlkN
import Derived.Test.YthijklidjdhkdaaDrvL
import Derived.Deep.RegionLaw
namespace Go.Proofs.Ythijklidjdhkdaa
open Go.RowKit
set_option linter.unusedVariables false
set_option linter.unusedSimpArgs false

/-- A list of numbers and a list of brakes of the call's own; the drive's box. -/
def FS (W w : World) (q : Nat) (m p : Int) (vo : Value) (zs : List Int) (vb vr : Value) (us : List (List Int)) : Prop :=
  Below W.heap.size W w ∧ Ow w W.heap.size vo zs ∧ OwR w W.heap.size 56 2 vr us ∧ Blk w q 29 #[.int .i64 m, .int .i64 p, vb] ∧ W.heap.size ≤ q
theorem own_grownB {w w' : World} {B : Nat} {v : Value} {zs : List Int} {row : Option Nat} (h : Ow w B v zs) (hg : w.grownBy w' row) (hne : ∀ k, row = some k → v.ownBlock ≠ some k) : Ow w' B v zs := by
  rcases hr : row with _ | k
  · subst hr
    exact h.other hg (fun k hk => by cases hk)
  · subst hr
    exact own_grown h (row := some k) hg (.inr (hne k rfl))
theorem ownR_grownB {w w' : World} {B F : Nat} {e : TypeId} {v : Value} {rows : List (List Int)} {row : Option Nat} (h : OwR w B e F v rows) (hg : w.grownBy w' row) (hne : ∀ k, row = some k → v.ownBlock ≠ some k) : OwR w' B e F v rows := by
  rcases hr : row with _ | k
  · subst hr
    exact h.other hg (fun k hk => by cases hk)
  · subst hr
    exact ⟨own_grown h.1 (row := some k) hg (.inr (hne k rfl)), h.2⟩
/-- Lists of different kinds lie in different blocks. -/
theorem own_two {w : World} {B B' : Nat} {v v' : Value} {zs : List Int} {rows : List (List Int)} (h : Ow w B v zs) (h' : OwR w B' 56 2 v' rows) : ∀ k, v.ownBlock = some k → v'.ownBlock ≠ some k := by
  intro k hk
  rcases h.2 with ⟨rfl, _⟩ | ⟨g', cap, cur, rfl, _, hh, _⟩
  · simp [Value.ownBlock] at hk
  · have : g' = k := by simpa [Value.ownBlock] using hk
    subst this
    exact own_blk_ne h'.1 (t := 3) hh (by decide)
theorem blk_of {w w' : World} {B g n size : Nat} {e t : TypeId} {v : Value} {xs : List Value} {cs : Array Value} (h : w.ownsRow B e size v n xs) (hb : Blk w g t cs) (hne : e ≠ t) (hg : w.grownBy w' v.ownBlock) : Blk w' g t cs :=
  hb.grown hg (fun e' => own_blk_ne h hb hne e'.symm)
section
variable {W w w' : World} {q : Nat} {m p : Int} {vo vb vr : Value} {zs : List Int} {us : List (List Int)}
theorem FS.alloc (h : FS W w q m p vo zs vb vr us) (o : Obj) : FS W (w.alloc o) q m p vo zs vb vr us := by
  obtain ⟨h1, h2, h3, h4, h5⟩ := h
  exact ⟨h1.alloc h1.size _, h2.alloc _, h3.alloc _, h4.alloc _, h5⟩
theorem FS.drew (h : FS W w q m p vo zs vb vr us) : FS W w.drew q m p vo zs vb vr us := by
  obtain ⟨h1, h2, h3, h4, h5⟩ := h
  exact ⟨h1.drew, h2, h3, h4, h5⟩
theorem FS.below_ (h : FS W w q m p vo zs vb vr us) (hb : Below w.heap.size w w') : FS W w' q m p vo zs vb vr us := by
  obtain ⟨h1, h2, h3, h4, h5⟩ := h
  exact ⟨Below.thenn h1 hb h1.size, h2.below hb, h3.below hb, h4.below hb h4.lt, h5⟩
/-- The numbers have grown. -/
theorem FS.appI {vo' : Value} {zs' : List Int} (h : FS W w q m p vo zs vb vr us) (ho : Ow w' W.heap.size vo' zs') (hG : w.grownBy w' vo.ownBlock) : FS W w' q m p vo' zs' vb vr us := by
  obtain ⟨h1, h2, h3, h4, h5⟩ := h
  exact ⟨below_grown (B := W.heap.size) h2 hG (Nat.le_refl _) h1.size |> fun hb => h1.trans hb, ho, ownR_grownB h3 hG (fun k hk => own_two h2 h3 k hk), blk_of h2 h4 (by decide) hG, h5⟩
/-- The brakes have grown. -/
theorem FS.appB {vr' : Value} {us' : List (List Int)} (h : FS W w q m p vo zs vb vr us) (ho : OwR w' W.heap.size 56 2 vr' us') (hG : w.grownBy w' vr.ownBlock) : FS W w' q m p vo zs vb vr' us' := by
  obtain ⟨h1, h2, h3, h4, h5⟩ := h
  exact ⟨below_grown (B := W.heap.size) h3.1 hG (Nat.le_refl _) h1.size |> fun hb => h1.trans hb, own_grownB h2 hG (fun k hk e => own_two h2 h3 k e hk), ho, blk_of h3.1 h4 (by decide) hG, h5⟩
/-- The slice of brakes is stored. -/
theorem FS.put (h : FS W w q m p vo zs vb vr us) : FS W (w.setCell ⟨q, 2, none⟩ vr) q m p vo zs vr vr us := by
  obtain ⟨h1, h2, h3, h4, h5⟩ := h
  refine ⟨h1.setCell h5 _, ?_, ⟨own_grown h3.1 (row := some q) (only_setCell (g := q) (World.grownBy.refl _ _) (.inl rfl) vr) (.inr (own_blk_ne h3.1 h4 (by decide))), h3.2⟩, ?_, h5⟩
  · exact own_grown h2 (row := some q) (only_setCell (g := q) (World.grownBy.refl _ _) (.inl rfl) vr) (.inr (own_blk_ne h2 h4 (by decide)))
  · simpa using h4.set_ 2 vr
theorem FS.cells (h : FS W w q m p vo zs vb vr us) : (w.cell? ⟨q, 0, none⟩ = some (.int .i64 m) ∧ w.cell? ⟨q, 1, none⟩ = some (.int .i64 p) ∧ w.cell? ⟨q, 2, none⟩ = some vb) ∧ w.frozen? ⟨q, 2, none⟩ = false ∧ q < w.heap.size ∧ W.heap.size ≤ w.heap.size := by
  obtain ⟨h1, h2, h3, h4, h5⟩ := h
  exact ⟨⟨by simpa using h4.cell 0, by simpa using h4.cell 1, by simpa using h4.cell 2⟩, h4.frozen 2, h4.lt, h1.size⟩
end
/-- 'append(l, x...)' of numbers at a step of a region that draws its order: what has grown. -/
theorem step_app_intsG {ops : Array Oper} {o : Oper} {a : Act} {K : Act → World → Prop} {Q : Exit → Act → World → Prop} {E : Prop} (hgd : o.guard = none) (s x : Operand)
    (ho : o.op = .call { callee := .builtin .append, args := #[s, x], argTypes := #[38, 38] }) (w : World) (B : Nat) (v : Value) (zs : List Int)
    (hs : a.eval s = v) (hown : Ow w B v zs) (A : Option Addr) (n c : Nat) (ys : List Int) (hx : a.eval x = .slice A n c) (hr : Rd w 1 A n (IV ys)) (hl : zs.length + ys.length < 1099511627776) (hB : B ≤ w.heap.size)
    (h : ∀ A' c' w', Ow w' B (.slice A' (zs ++ ys).length c') (zs ++ ys) → w.grownBy w' v.ownBlock → K (a.put o.dst (.slice A' (zs ++ ys).length c')) w') :
    if Region.wanted o (yielded ops a.tmps) = true then Oper.wp Try.prog o a w K Q else E := by
  obtain ⟨i0, hi0, hz0, hz1, hz2⟩ := info_parts info_int
  have hn := hr.len
  refine step_append_any w hgd s x _ ho B 3 i0 (.int .i64 0) 1 8 Try.underlying38 hi0 hz0 hz1 hz2 rfl (by omega) v zs.length (IV zs) hs hown _ n c (IV ys) hx hr (ints_oneCell _ _)
    (by simp only [maxLen]; omega) (by omega) hB ?_
  intro A' c' w' hown' hg
  have e1 : (zs ++ ys).length = zs.length + n := by simp [hn]
  rw [← e1] at hown' ⊢
  refine h A' c' w' ?_ hg
  simpa [Ow] using hown'
/-- The same of brakes. -/
theorem step_app_BrakesG {ops : Array Oper} {o : Oper} {a : Act} {K : Act → World → Prop} {Q : Exit → Act → World → Prop} {E : Prop} (hgd : o.guard = none) (s x : Operand)
    (ho : o.op = .call { callee := .builtin .append, args := #[s, x], argTypes := #[27, 27] }) (w : World) (B : Nat) (v : Value) (rows : List (List Int))
    (hs : a.eval s = v) (hown : OwR w B 56 2 v rows) (A : Option Addr) (n c : Nat) (ys : List (List Int)) (hx : a.eval x = .slice A n c) (hr : RdR w 2 A n ys) (hl : rows.length + n < 1099511627776) (hB : B ≤ w.heap.size)
    (h : ∀ A' c' w', OwR w' B 56 2 (.slice A' (rows ++ ys).length c') (rows ++ ys) → w.grownBy w' v.ownBlock → K (a.put o.dst (.slice A' (rows ++ ys).length c')) w') :
    if Region.wanted o (yielded ops a.tmps) = true then Oper.wp Try.prog o a w K Q else E := by
  obtain ⟨i0, hi0, hz0, hz1, hz2⟩ := info_parts info_Brake
  have e1 : rows.length + n = (rows ++ ys).length := by simp [hr.2.2]
  refine step_append_any w hgd s x _ ho B 56 i0 _ 2 16 Try.underlying27 hi0 hz0 hz1 hz2 rfl (by omega) v rows.length (IV rows.flatten) hs hown.1 _ n c (IV ys.flatten) hx hr.1 (ints_oneCell _ _)
    (by simp only [maxLen]; omega) (by omega) hB ?_
  intro A' c' w' hown' hg
  have hn := RdR.cat_Brake (n := n) hown.2 hr.2.1 e1 hown'
  rw [e1]
  exact h A' c' w' hn hg
theorem rdR_blk {w : World} {q : Nat} {cs : Array Value} {x y : Int} (h : Blk w q 56 cs) (hcs : cs = #[.int .i64 x, .int .i64 y]) : RdR w 2 (some ⟨q, 0, none⟩) 1 [[x, y]] := by
  subst hcs
  refine ⟨?_, by simp [Even], rfl⟩
  have := Rd.of_block (n := 1) (size := 2) h rfl
  simpa using this
end Go.Proofs.Ythijklidjdhkdaa
