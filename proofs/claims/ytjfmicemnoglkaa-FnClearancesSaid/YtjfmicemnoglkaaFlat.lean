/- Rows of numbers of the call's own, F cells a row. -/
import Derived.Test.YtjfmicemnoglkaaBase
import Derived.Test.YtjfmicemnoglkaaStruct
import Derived.StillTailTactics
namespace Go.Proofs.Ytjfmicemnoglkaa
open Go.RowKit
set_option linter.unusedVariables false
set_option linter.unusedSimpArgs false

/-- The slice value v owns n rows of F numbers each, end to end zs, among the blocks from B on. -/
def OwF (w : World) (B : Nat) (e : TypeId) (F : Nat) (v : Value) (n : Nat) (zs : List Int) : Prop := w.ownsRow B e F v n (IV zs)
section
variable {w w' : World} {B F n : Nat} {e : TypeId} {v : Value} {zs : List Int}
theorem OwF.len (h : OwF w B e F v n zs) : zs.length = n * F := by have := h.1; simpa using this
theorem OwF.shape (h : OwF w B e F v n zs) : ∃ A c, v = .slice A n c ∧ n ≤ c ∧ c ≤ maxLen ∧ (A = none → c = 0) := own_shape h
theorem OwF.rd {A : Option Addr} {m c : Nat} (h : OwF w B e F (.slice A m c) n zs) : Rd w F A n (IV zs) := by
  obtain ⟨A', c', e', _⟩ := own_shape h
  injection e' with e1 e2 e3
  subst e1 e2 e3
  exact Rd.of_own h
theorem OwF.none_ {A : Option Addr} {m c : Nat} (h : OwF w B e F (.slice A m c) n zs) (hA : A = none) : c = 0 ∧ n = 0 := by
  obtain ⟨A', c', e', h1, _, h2⟩ := own_shape h
  injection e' with e1 e2 e3
  subst e1 e2 e3
  have := h2 hA
  exact ⟨this, by omega⟩
theorem OwF.cap {A : Option Addr} {m c : Nat} (h : OwF w B e F (.slice A m c) n zs) : n ≤ c ∧ c ≤ 9223372036854775807 := by
  obtain ⟨A', c', e', h1, h2, _⟩ := own_shape h
  injection e' with e1 e2 e3
  subst e1 e2 e3
  exact ⟨h1, by simp only [maxLen] at h2; omega⟩
theorem OwF.below (h : OwF w B e F v n zs) (hb : Below w.heap.size w w') : OwF w' B e F v n zs := own_below h hb
theorem OwF.drewN (h : OwF w B e F v n zs) (k : Nat) : OwF (w.drewN k) B e F v n zs := h
theorem OwF.alloc (h : OwF w B e F v n zs) (o : Obj) : OwF (w.alloc o) B e F v n zs := World.ownsRow.alloc h o
theorem OwF.base {B' : Nat} (h : OwF w B e F v n zs) (hb : B' ≤ B) : OwF w B' e F v n zs := own_base h hb
theorem OwF.nil (w : World) (B : Nat) (e : TypeId) (F : Nat) : OwF w B e F (.slice none 0 0) 0 [] := World.ownsRow_nil w B _ _
theorem OwF.lit (w : World) (e : TypeId) (F n : Nat) (zs : List Int) (hz : zs.length = n * F) (hm : n ≤ maxLen) (hB : B ≤ w.heap.size) : OwF (w.alloc (.cells (IV zs).toArray e)) B e F (.slice (some ⟨w.heap.size, 0, none⟩) n n) n zs := by
  have := own_lit w e (IV zs).toArray F n B (by simp [hz]) hm hB
  simpa [OwF] using this
theorem OwF.lit0 (w : World) (B : Nat) (e : TypeId) (F : Nat) (hB : B ≤ w.heap.size) : OwF (w.alloc (.cells #[] e)) B e F (.slice (some ⟨w.heap.size, 0, none⟩) 0 0) 0 [] := OwF.lit w e F 0 [] (by simp) (by simp [maxLen]) hB
theorem OwF.block_lt (h : OwF w B e F v n zs) : ∀ k, v.ownBlock = some k → k < w.heap.size := fun k hk => (World.ownsRow.lt h k hk).2
theorem OwF.block_ge (h : OwF w B e F v n zs) : ∀ k, v.ownBlock = some k → B ≤ k := fun k hk => (World.ownsRow.lt h k hk).1
theorem OwF.other {row : Option Nat} (h : OwF w B e F v n zs) (hg : w.grownBy w' row) (hne : ∀ k, row = some k → k < B) : OwF w' B e F v n zs := by
  refine own_grown h hg ?_
  rcases hv : v.ownBlock with _ | k
  · exact .inl rfl
  · right
    intro e
    have h1 := h.block_ge k hv
    have h2 := hne k e.symm
    omega
theorem OwF.other2 {B2 : Nat} {row : Option Nat} (h : OwF w B e F v n zs) (hg : w.grownBy w' row) (hlt : ∀ k, v.ownBlock = some k → k < B2) (hge : ∀ k, row = some k → B2 ≤ k) : OwF w' B e F v n zs := by
  refine own_grown h hg ?_
  rcases hv : v.ownBlock with _ | k
  · exact .inl rfl
  · right
    intro e
    have h1 := hlt k hv
    have h2 := hge k e.symm
    omega
theorem below_ownF {W : World} (hB : Below W.heap.size W w) (h : OwF w B e F v n zs) (hg : w.grownBy w' v.ownBlock) (hW : W.heap.size ≤ B) (hs : W.heap.size ≤ w.heap.size) : Below W.heap.size W w' :=
  hB.grown hg hs fun k hk => Nat.le_trans hW (h.block_ge k hk)
/-- The cells. -/
theorem OwF.cellsAt {A : Option Addr} {c : Nat} (h : OwF w B e F (.slice A n c) n zs) (hn : 0 < n) :
    ∃ g, A = some ⟨g, 0, none⟩ ∧ B ≤ g ∧ g < w.heap.size ∧ (∀ j, j < n * F → ∃ x, zs[j]? = some x ∧ w.cell? ⟨g, j, none⟩ = some (.int .i64 x)) ∧ (∀ j, w.frozen? ⟨g, j, none⟩ = false) := by
  obtain ⟨g, cap, hv, hb, hlt⟩ := World.ownsRow.form h hn
  injection hv with e1 e2 e3
  subst e1 e3
  refine ⟨g, rfl, hb, hlt, fun j hj => ?_, fun j => World.ownsRow.frozenAt h j⟩
  have hj' : j < zs.length := by rw [h.len]; exact hj
  refine ⟨zs[j], List.getElem?_eq_getElem hj', ?_⟩
  rw [World.ownsRow.cellAt h j hj]
  simp [hj']
end

/-- zs in its first m places, ys behind. -/
def mixC (zs ys : List Int) (m : Nat) : List Int := zs.take m ++ ys.drop m
theorem mixC_zero (zs ys : List Int) : mixC zs ys 0 = ys := by simp [mixC]
theorem mixC_end {zs ys : List Int} {m : Nat} (h : zs.length ≤ m) (h' : ys.length ≤ m) : mixC zs ys m = zs := by unfold mixC; rw [List.take_of_length_le h, List.drop_of_length_le h']; simp
theorem mixC_next {zs ys : List Int} {m : Nat} {z : Int} (hz : zs[m]? = some z) (hl : m < ys.length) : (mixC zs ys m).set m z = mixC zs ys (m + 1) := by
  have hm := lt_of_at hz
  unfold mixC
  have e : m - (zs.take m).length = 0 := by simp; omega
  rw [List.set_append, if_neg (by simp; omega), e, take_next hz, List.drop_eq_getElem_cons hl, List.set_cons_zero]
  simp
theorem mixC_len {zs ys : List Int} {m : Nat} (h : zs.length = ys.length) : (mixC zs ys m).length = ys.length := by simp [mixC]; omega
/-- One number is stored. -/
theorem OwF.mix1 {w : World} {B F n g c m : Nat} {e : TypeId} {zs ys : List Int} {z : Int} (h : OwF w B e F (.slice (some ⟨g, 0, none⟩) n c) n (mixC zs ys m)) (hz : zs[m]? = some z) (hl : m < ys.length) :
    OwF (w.setCell ⟨g, m, none⟩ (.int .i64 z)) B e F (.slice (some ⟨g, 0, none⟩) n c) n (mixC zs ys (m + 1)) := by
  have := (World.ownsRow.stored h m (.int .i64 z)).1
  unfold OwF
  rw [← mixC_next hz hl]
  simpa [List.map_set] using this
theorem grown_set {w w0 : World} {g m : Nat} (h : w0.grownBy w (some g)) (u : Value) : w0.grownBy (w.setCell ⟨g, m, none⟩ u) (some g) := only_setCell h (.inl rfl) u

/-! ### Rows -/
def OwR (w : World) (B : Nat) (e : TypeId) (F : Nat) (v : Value) (rows : List (List Int)) : Prop := OwF w B e F v rows.length rows.flatten ∧ Even F rows
section
variable {w w' : World} {B F : Nat} {e : TypeId} {v : Value} {rows : List (List Int)}
theorem OwR.rdR {A : Option Addr} {m c : Nat} (h : OwR w B e F (.slice A m c) rows) : RdR w F A rows.length rows := ⟨h.1.rd, h.2, rfl⟩
theorem OwR.below (h : OwR w B e F v rows) (hb : Below w.heap.size w w') : OwR w' B e F v rows := ⟨h.1.below hb, h.2⟩
theorem OwR.block_lt (h : OwR w B e F v rows) : ∀ k, v.ownBlock = some k → k < w.heap.size := h.1.block_lt
theorem OwR.block_ge (h : OwR w B e F v rows) : ∀ k, v.ownBlock = some k → B ≤ k := h.1.block_ge
theorem OwR.other {row : Option Nat} (h : OwR w B e F v rows) (hg : w.grownBy w' row) (hne : ∀ k, row = some k → k < B) : OwR w' B e F v rows := ⟨h.1.other hg hne, h.2⟩
theorem OwR.other2 {B2 : Nat} {row : Option Nat} (h : OwR w B e F v rows) (hg : w.grownBy w' row) (hlt : ∀ k, v.ownBlock = some k → k < B2) (hge : ∀ k, row = some k → B2 ≤ k) : OwR w' B e F v rows := ⟨h.1.other2 hg hlt hge, h.2⟩
theorem OwR.none_ {A : Option Addr} {m c : Nat} (h : OwR w B e F (.slice A m c) rows) (hA : A = none) : c = 0 ∧ rows.length = 0 := h.1.none_ hA
theorem OwR.cap {A : Option Addr} {m c : Nat} (h : OwR w B e F (.slice A m c) rows) : rows.length ≤ c ∧ c ≤ 9223372036854775807 := h.1.cap
theorem RdR.below {A : Option Addr} {n : Nat} (h : RdR w F A n rows) (hb : Below w.heap.size w w') : RdR w' F A n rows := ⟨h.1.below hb, h.2⟩
theorem RdR.lenZ {A : Option Addr} {n : Nat} (h : RdR w F A n rows) : rows.flatten.length = n * F := by rw [flat_len h.2.1, h.2.2]
theorem OwR.nil (w : World) (B : Nat) (e : TypeId) (F : Nat) : OwR w B e F (.slice none 0 0) [] := ⟨OwF.nil w B e F, by simp [Even]⟩
theorem OwR.lit0 (w : World) (B : Nat) (e : TypeId) (F : Nat) (hB : B ≤ w.heap.size) : OwR (w.alloc (.cells #[] e)) B e F (.slice (some ⟨w.heap.size, 0, none⟩) 0 0) [] := ⟨OwF.lit0 w B e F hB, by simp [Even]⟩
end
/-- What a function returns that hands back new rows. -/
def RetR (w : World) (e : TypeId) (F : Nat) (rows : List (List Int)) (en : Ending) (w' : World) : Prop :=
  ∃ A c, en = .returned (.slice A rows.length c) ∧ OwR w' w.heap.size e F (.slice A rows.length c) rows ∧ Below w.heap.size w w'
/-- New rows and a bool. -/
def RetRB (w : World) (e : TypeId) (F : Nat) (rows : List (List Int)) (b : Bool) (en : Ending) (w' : World) : Prop :=
  ∃ A c, en = .returned (.tuple #[.slice A rows.length c, .bool b]) ∧ OwR w' w.heap.size e F (.slice A rows.length c) rows ∧ Below w.heap.size w w'

theorem madeCells_same {z : Array Value} {u : Value} (hz : ∀ j, j < z.size → z[j]! = u) (h0 : 0 < z.size) (m : Nat) : (madeCells z m).toList = List.replicate m u := by
  apply List.ext_getElem?
  intro j
  by_cases hj : j < m
  · simp [madeCells, hj]
    exact hz _ (Nat.mod_lt _ h0)
  · simp [madeCells, hj]
theorem IV_rep (m : Nat) : IV (List.replicate m 0) = List.replicate m (Value.int .i64 0) := by simp
/-- The field of a row among the numbers end to end. -/
theorem flat_fld {F : Nat} {rows : List (List Int)} {k j : Nat} {r : List Int} {x : Int} (he : Even F rows) (h : rows[k]? = some r) (hj : j < F) (hx : r[j]? = some x) : rows.flatten[k * F + j]? = some x := (flat_at he h hj).trans hx
end Go.Proofs.Ytjfmicemnoglkaa
