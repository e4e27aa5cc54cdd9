/- Numbers and rows stored into a list of rows of the call's own. No function of the program in sight. -/
import Derived.Test.YtjfmicemnoglkaaFlat
namespace Go.Proofs.Ytjfmicemnoglkaa
open Go.RowKit
set_option linter.unusedVariables false
set_option linter.unusedSimpArgs false

theorem flat_set1 {F : Nat} {z : Int} : ∀ {rows : List (List Int)} {k j : Nat} {r : List Int}, Even F rows → rows[k]? = some r → j < F → (rows.set k (r.set j z)).flatten = rows.flatten.set (k * F + j) z
  | [], _, _, _, _, h, _ => by simp at h
  | a :: t, 0, j, r, he, h, hj => by
    have ha := he a (by simp)
    simp at h
    subst h
    simp only [List.set_cons_zero, List.flatten_cons, Nat.zero_mul, Nat.zero_add]
    rw [List.set_append_left _ _ (by omega)]
  | a :: t, k + 1, j, r, he, h, hj => by
    have ha := he a (by simp)
    have ih := flat_set1 (z := z) (rows := t) (k := k) (j := j) (r := r) (fun x hx => he x (by simp [hx])) (by simpa using h) hj
    simp only [List.set_cons_succ, List.flatten_cons, ih]
    have e1 : (k + 1) * F + j = a.length + (k * F + j) := by rw [Nat.add_mul, ha]; omega
    rw [e1, List.set_append_right _ _ (by omega)]
    congr 2
    omega
/-- One number of one row is stored. -/
theorem OwR.set1 {w : World} {B g n c k j F : Nat} {e : TypeId} {rows : List (List Int)} {r : List Int} (h : OwR w B e F (.slice (some ⟨g, 0, none⟩) n c) rows) (hn : rows.length = n) (hr : rows[k]? = some r) (hj : j < F) (z : Int) :
    OwR (w.setCell ⟨g, k * F + j, none⟩ (.int .i64 z)) B e F (.slice (some ⟨g, 0, none⟩) n c) (rows.set k (r.set j z)) := by
  subst hn
  have hl := (List.getElem?_eq_some_iff.1 hr).1
  have hrF : r.length = F := h.2 r (List.mem_of_getElem? hr)
  refine ⟨?_, ?_⟩
  · have := (World.ownsRow.stored h.1 (k * F + j) (.int .i64 z)).1
    rw [flat_set1 h.2 hr hj]
    unfold OwF
    rw [List.length_set]
    simpa [List.map_set] using this
  · intro x hx
    rcases List.mem_or_eq_of_mem_set hx with hx | rfl
    · exact h.2 x hx
    · simp [hrF]
theorem set_twice {rows : List (List Int)} {k : Nat} {r r' : List Int} (h : rows[k]? = some r) : (rows.set k r')[k]? = some r' := by
  have hl := (List.getElem?_eq_some_iff.1 h).1
  simp [hl]
/-- The cells of a row of the call's own. -/
theorem OwR.cells5 {w : World} {B c k : Nat} {A : Option Addr} {e : TypeId} {rows : List (List Int)} {x0 x1 x2 x3 x4 : Int} (h : OwR w B e 5 (.slice A rows.length c) rows) (hr : rows[k]? = some [x0, x1, x2, x3, x4]) :
    ∃ g, A = some ⟨g, 0, none⟩ ∧ B ≤ g ∧ g < w.heap.size ∧ (w.cell? ⟨g, k * 5, none⟩ = some (.int .i64 x0) ∧ w.cell? ⟨g, k * 5 + 1, none⟩ = some (.int .i64 x1) ∧ w.cell? ⟨g, k * 5 + 2, none⟩ = some (.int .i64 x2) ∧ w.cell? ⟨g, k * 5 + 3, none⟩ = some (.int .i64 x3) ∧ w.cell? ⟨g, k * 5 + 4, none⟩ = some (.int .i64 x4)) ∧
      ∀ m, w.frozen? ⟨g, m, none⟩ = false := by
  have hl := (List.getElem?_eq_some_iff.1 hr).1
  obtain ⟨g, hA, hB, hg, hcs, hfs⟩ := h.1.cellsAt (by omega)
  have hz := h.1.len
  have key : ∀ j x, j < 5 → [x0, x1, x2, x3, x4][j]? = some x → w.cell? ⟨g, k * 5 + j, none⟩ = some (.int .i64 x) := by
    intro j x hj hx
    obtain ⟨y, hy, hc⟩ := hcs (k * 5 + j) (by omega)
    have := flat_fld h.2 hr hj hx
    rw [this] at hy
    injection hy with hy
    rw [hc, ← hy]
  exact ⟨g, hA, hB, hg, ⟨key 0 _ (by omega) rfl, key 1 _ (by omega) rfl, key 2 _ (by omega) rfl, key 3 _ (by omega) rfl, key 4 _ (by omega) rfl⟩, hfs⟩
theorem OwR.base {w : World} {B B' : Nat} {e : TypeId} {F : Nat} {v : Value} {rows : List (List Int)} (h : OwR w B e F v rows) (hb : B' ≤ B) : OwR w B' e F v rows := ⟨h.1.base hb, h.2⟩
theorem OwR.cast_ {w : World} {B : Nat} {e : TypeId} {F n m c : Nat} {A : Option Addr} {rows : List (List Int)} (h : OwR w B e F (.slice A n c) rows) (hn : n = m) : OwR w B e F (.slice A m c) rows := hn ▸ h
theorem RdR.castN {w : World} {F n m : Nat} {A : Option Addr} {rows : List (List Int)} (h : RdR w F A n rows) (e : n = m) : RdR w F A m rows := e ▸ h
theorem Below.put5 {B : Nat} {a w : World} {g k : Nat} (h : Below B a w) (hg : B ≤ g) (b0 b1 b2 b3 b4 : Value) :
    Below B a (((((w.setCell ⟨g, k, none⟩ b0).setCell ⟨g, k + 1, none⟩ b1).setCell ⟨g, k + 2, none⟩ b2).setCell ⟨g, k + 3, none⟩ b3).setCell ⟨g, k + 4, none⟩ b4) :=
  ((((h.setCell (p := ⟨g, k, none⟩) hg _).setCell (p := ⟨g, k + 1, none⟩) hg _).setCell (p := ⟨g, k + 2, none⟩) hg _).setCell (p := ⟨g, k + 3, none⟩) hg _).setCell (p := ⟨g, k + 4, none⟩) hg _
theorem size_put5 {w : World} {g k : Nat} (b0 b1 b2 b3 b4 : Value) : (((((w.setCell ⟨g, k, none⟩ b0).setCell ⟨g, k + 1, none⟩ b1).setCell ⟨g, k + 2, none⟩ b2).setCell ⟨g, k + 3, none⟩ b3).setCell ⟨g, k + 4, none⟩ b4).heap.size = w.heap.size := by simp [World.setCell]
theorem OwR.put5 {w : World} {B g n c k : Nat} {e : TypeId} {rows : List (List Int)} {x0 x1 x2 x3 x4 y0 y1 y2 y3 y4 : Int} (h : OwR w B e 5 (.slice (some ⟨g, 0, none⟩) n c) rows) (hn : rows.length = n) (hr : rows[k]? = some [x0, x1, x2, x3, x4]) :
    OwR (((((w.setCell ⟨g, k * 5, none⟩ (.int .i64 y0)).setCell ⟨g, k * 5 + 1, none⟩ (.int .i64 y1)).setCell ⟨g, k * 5 + 2, none⟩ (.int .i64 y2)).setCell ⟨g, k * 5 + 3, none⟩ (.int .i64 y3)).setCell ⟨g, k * 5 + 4, none⟩ (.int .i64 y4)) B e 5
      (.slice (some ⟨g, 0, none⟩) n c) (rows.set k [y0, y1, y2, y3, y4]) := by
  have h0 := h.set1 hn hr (j := 0) (by omega) y0
  have r0 := set_twice (r' := [x0, x1, x2, x3, x4].set 0 y0) hr
  have h1 := h0.set1 (by simpa using hn) r0 (j := 1) (by omega) y1
  have r1 := set_twice (r' := ([x0, x1, x2, x3, x4].set 0 y0).set 1 y1) r0
  have h2 := h1.set1 (by simpa using hn) r1 (j := 2) (by omega) y2
  have r2 := set_twice (r' := (([x0, x1, x2, x3, x4].set 0 y0).set 1 y1).set 2 y2) r1
  have h3 := h2.set1 (by simpa using hn) r2 (j := 3) (by omega) y3
  have r3 := set_twice (r' := ((([x0, x1, x2, x3, x4].set 0 y0).set 1 y1).set 2 y2).set 3 y3) r2
  have h4 := h3.set1 (by simpa using hn) r3 (j := 4) (by omega) y4
  simpa using h4
theorem OwR.put2 {w : World} {B g n c k : Nat} {e : TypeId} {rows : List (List Int)} {x0 x1 x2 x3 x4 y2 y3 : Int} (h : OwR w B e 5 (.slice (some ⟨g, 0, none⟩) n c) rows) (hn : rows.length = n) (hr : rows[k]? = some [x0, x1, x2, x3, x4]) :
    OwR ((w.setCell ⟨g, k * 5 + 3, none⟩ (.int .i64 y3)).setCell ⟨g, k * 5 + 2, none⟩ (.int .i64 y2)) B e 5 (.slice (some ⟨g, 0, none⟩) n c) (rows.set k [x0, x1, y2, y3, x4]) := by
  have h0 := h.set1 hn hr (j := 3) (by omega) y3
  have r0 := set_twice (r' := [x0, x1, x2, x3, x4].set 3 y3) hr
  have h1 := h0.set1 (by simpa using hn) r0 (j := 2) (by omega) y2
  simpa using h1
theorem Below.put2 {B : Nat} {a w : World} {g k : Nat} (h : Below B a w) (hg : B ≤ g) (b0 b1 : Value) : Below B a ((w.setCell ⟨g, k + 3, none⟩ b0).setCell ⟨g, k + 2, none⟩ b1) :=
  (h.setCell (p := ⟨g, k + 3, none⟩) hg _).setCell (p := ⟨g, k + 2, none⟩) hg _
/-- A store into another block. -/
theorem OwR.far {w : World} {B g n c F : Nat} {e : TypeId} {rows : List (List Int)} (h : OwR w B e F (.slice (some ⟨g, 0, none⟩) n c) rows) {p : Addr} (hp : p.block ≠ g) (u : Value) : OwR (w.setCell p u) B e F (.slice (some ⟨g, 0, none⟩) n c) rows :=
  ⟨own_grown h.1 (row := some p.block) (only_setCell (g := p.block) (World.grownBy.refl _ _) (.inl rfl) u) (.inr fun e => hp (by simp [Value.ownBlock] at e; exact e.symm)), h.2⟩
theorem OwR.alloc {w : World} {B : Nat} {e : TypeId} {F : Nat} {v : Value} {rows : List (List Int)} (h : OwR w B e F v rows) (o : Obj) : OwR (w.alloc o) B e F v rows := ⟨h.1.alloc o, h.2⟩
theorem flat_take {F : Nat} : ∀ {rows : List (List Int)} {k : Nat}, Even F rows → (rows.take k).flatten = rows.flatten.take (k * F)
  | [], k, _ => by simp
  | r :: rs, 0, _ => by simp
  | r :: rs, k + 1, he => by
    have hr := he r (by simp)
    have ih := flat_take (rows := rs) (k := k) fun x hx => he x (by simp [hx])
    simp only [List.take_succ_cons, List.flatten_cons, ih]
    rw [show (k + 1) * F = r.length + k * F by rw [Nat.add_mul, hr]; omega, List.take_length_add_append]
theorem flat_drop {F : Nat} : ∀ {rows : List (List Int)} {k : Nat}, Even F rows → (rows.drop k).flatten = rows.flatten.drop (k * F)
  | [], k, _ => by simp
  | r :: rs, 0, _ => by simp
  | r :: rs, k + 1, he => by
    have hr := he r (by simp)
    have ih := flat_drop (rows := rs) (k := k) fun x hx => he x (by simp [hx])
    simp only [List.drop_succ_cons, List.flatten_cons, ih]
    rw [show (k + 1) * F = r.length + k * F by rw [Nat.add_mul, hr]; omega, List.drop_length_add_append]
theorem RdR.take_ {w : World} {F n k : Nat} {A : Option Addr} {rows : List (List Int)} (h : RdR w F A n rows) (hk : k ≤ n) : RdR w F A k (rows.take k) := by
  have h1 := h.1.take hk
  refine ⟨?_, fun r hr => h.2.1 r (List.mem_of_mem_take hr), by simp [h.2.2]; omega⟩
  rw [flat_take h.2.1, show IV (rows.flatten.take (k * F)) = (IV rows.flatten).take (k * F) from List.map_take]
  exact h1
theorem RdR.cut_ {w : World} {F n k cap : Nat} {A : Option Addr} {rows : List (List Int)} (h : RdR w F A n rows) (hk : k ≤ n) (hc : n ≤ cap) : RdR w F (if cap = k then A else A.map (·.add (k * F))) (n - k) (rows.drop k) := by
  have h1 := h.1.cut hk hc
  refine ⟨?_, fun r hr => h.2.1 r (List.mem_of_mem_drop hr), by simp [h.2.2]⟩
  rw [flat_drop h.2.1, show IV (rows.flatten.drop (k * F)) = (IV rows.flatten).drop (k * F) from List.map_drop]
  exact h1
end Go.Proofs.Ytjfmicemnoglkaa
