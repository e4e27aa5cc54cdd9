/- AUTO. Contracts of the small functions on numbers and lists of numbers. -/
import Derived.Test.YtjfmicemnoglkaaDoorApp
namespace Go.Proofs.YtjfmicemnoglkaaDoor
open Go.RowKit
set_option linter.unusedVariables false
set_option linter.unusedSimpArgs false

def inr (n lo hi : Int) : Bool := decide (lo ≤ n ∧ n ≤ hi)
theorem info_int : (Tryd.prog.info? 3).map (fun i => (i.zero, i.size, i.bytes)) = some (some (.int .i64 0), 1, 8) := by kernel_rfl

/-- The function only computes, or draws. -/
def Quiet (w : World) (v : Value) (e : Ending) (w' : World) : Prop := e = .returned v ∧ ∃ n, w' = w.drewN n
theorem Quiet.ret {w w' : World} {v : Value} {e : Ending} (h : Quiet w v e w') : Ret w v e w' := by
  obtain ⟨he, n, rfl⟩ := h
  exact ⟨he, below_n w n⟩

/-- The slice value v owns the numbers zs in a row among the blocks from B on. -/
def Ow (w : World) (B : Nat) (v : Value) (zs : List Int) : Prop := w.ownsRow B 3 1 v zs.length (IV zs)
section
variable {w w' : World} {B : Nat} {v : Value} {zs : List Int}
theorem Ow.shape (h : Ow w B v zs) : ∃ A c, v = .slice A zs.length c ∧ zs.length ≤ c ∧ c ≤ maxLen ∧ (A = none → c = 0) := own_shape h
theorem Ow.rd {A : Option Addr} {n c : Nat} (h : Ow w B (.slice A n c) zs) : Rd w 1 A n (IV zs) := by
  obtain ⟨A', c', e, _⟩ := own_shape h
  injection e with e1 e2 e3
  subst e1 e2 e3
  exact Rd.of_own h
theorem Ow.none_ {A : Option Addr} {n c : Nat} (h : Ow w B (.slice A n c) zs) (hA : A = none) : c = 0 ∧ n = 0 := by
  obtain ⟨A', c', e, h1, _, h2⟩ := own_shape h
  injection e with e1 e2 e3
  subst e1 e2 e3
  have := h2 hA
  exact ⟨this, by omega⟩
theorem Ow.cap {A : Option Addr} {n c : Nat} (h : Ow w B (.slice A n c) zs) : n ≤ c ∧ c ≤ 9223372036854775807 := by
  obtain ⟨A', c', e, h1, h2, _⟩ := own_shape h
  injection e with e1 e2 e3
  subst e1 e2 e3
  exact ⟨h1, by simp only [maxLen] at h2; omega⟩
theorem Ow.len {A : Option Addr} {n c : Nat} (h : Ow w B (.slice A n c) zs) : zs.length = n := by
  obtain ⟨A', c', e, _⟩ := own_shape h
  injection e with e1 e2 e3
  exact e2.symm
theorem Ow.below (h : Ow w B v zs) (hb : Below w.heap.size w w') : Ow w' B v zs := own_below h hb
theorem Ow.drewN (h : Ow w B v zs) (n : Nat) : Ow (w.drewN n) B v zs := h
theorem Ow.alloc (h : Ow w B v zs) (o : Obj) : Ow (w.alloc o) B v zs := World.ownsRow.alloc h o
theorem Ow.base {B' : Nat} (h : Ow w B v zs) (hb : B' ≤ B) : Ow w B' v zs := own_base h hb
theorem Ow.nil (w : World) (B : Nat) : Ow w B (.slice none 0 0) [] := World.ownsRow_nil w B _ 1
theorem Ow.lit (w : World) (zs : List Int) (hm : zs.length ≤ maxLen) (hB : B ≤ w.heap.size) : Ow (w.alloc (.cells (IV zs).toArray 3)) B (.slice (some ⟨w.heap.size, 0, none⟩) zs.length zs.length) zs := by
  have := own_lit w 3 (IV zs).toArray 1 zs.length B (by simp) hm hB
  simpa [Ow] using this
end
theorem Ow.lit0 (w : World) (B : Nat) (hB : B ≤ w.heap.size) : Ow (w.alloc (.cells #[] 3)) B (.slice (some ⟨w.heap.size, 0, none⟩) 0 0) [] := Ow.lit w [] (by simp [maxLen]) hB
/-- What a function returns that hands back a new slice of numbers. -/
def RetS (w : World) (zs : List Int) (e : Ending) (w' : World) : Prop := ∃ A c, e = .returned (.slice A zs.length c) ∧ Ow w' w.heap.size (.slice A zs.length c) zs ∧ Below w.heap.size w w'
/-- A slice and a bool. -/
def RetSB (w : World) (zs : List Int) (b : Bool) (e : Ending) (w' : World) : Prop := ∃ A c, e = .returned (.tuple #[.slice A zs.length c, .bool b]) ∧ Ow w' w.heap.size (.slice A zs.length c) zs ∧ Below w.heap.size w w'

theorem ret_s {A : Option Addr} {n m c : Nat} (h : n = m) : Ending.returned (.slice A n c) = .returned (.slice A m c) := by rw [h]
theorem ret_ssb {A : Option Addr} {n m c : Nat} {b : Bool} (h : n = m) : Ending.returned (.tuple #[.slice A n c, .bool b]) = .returned (.tuple #[.slice A m c, .bool b]) := by rw [h]
theorem ret_sb {A : Option Addr} {n c : Nat} {b b' : Bool} (h : b = b') : Ending.returned (.tuple #[.slice A n c, .bool b]) = .returned (.tuple #[.slice A n c, .bool b']) := by rw [h]

theorem eq_next {xs ys : List Int} {k : Nat} {x : Int} (h : xs[k]? = some x) (h' : ys[k]? = some x) (he : xs.take k = ys.take k) : xs.take (k + 1) = ys.take (k + 1) := by rw [take_next h, take_next h', he]
theorem eq_stop {xs ys : List Int} {k : Nat} {x y : Int} (h : xs[k]? = some x) (h' : ys[k]? = some y) (he : x ≠ y) : decide (xs = ys) = false := by
  simp only [decide_eq_false_iff_not]
  rintro rfl
  rw [h] at h'
  injection h' with h'
  exact he h'
theorem eq_end {xs ys : List Int} {n k : Nat} (h : xs.length = n) (h' : ys.length = n) (hk : n ≤ k) (he : xs.take k = ys.take k) : decide (xs = ys) = true := by
  rw [List.take_of_length_le (by omega), List.take_of_length_le (by omega)] at he
  simpa using he

/-- Cells of a list that is filled from its head. -/
def fillC (xs : List Int) (n k : Nat) : Array Value := (IV (xs.take k) ++ List.replicate (n - k) (Value.int .i64 0)).toArray
theorem fillC_zero (xs : List Int) (n : Nat) : madeCells #[Value.int .i64 0] n = fillC xs n 0 := by
  apply Array.toList_inj.1
  rw [toList_madeCells_one]
  simp [fillC]
theorem fillC_next {xs : List Int} {n k : Nat} {x : Int} (hn : k < n) (h : xs[k]? = some x) : (fillC xs n k).setIfInBounds k (.int .i64 x) = fillC xs n (k + 1) := by
  have hk := lt_of_at h
  unfold fillC
  rw [take_next h]
  apply Array.toList_inj.1
  have e : n - k = (n - (k + 1)) + 1 := by omega
  have hl : (IV (xs.take k)).length = k := by simp; omega
  rw [e, List.replicate_succ]
  simp only [List.setIfInBounds_toArray, List.map_append, List.map_cons, List.map_nil]
  rw [List.set_append, if_neg (by simp; omega)]
  have e2 : k - (List.map (Value.int IntKind.i64) (List.take k xs)).length = 0 := by simp; omega
  rw [e2]
  simp
theorem fillC_end {xs : List Int} {n k : Nat} (hl : xs.length = n) (hk : n ≤ k) : fillC xs n k = (IV xs).toArray := by
  unfold fillC
  rw [List.take_of_length_le (by omega), show n - k = 0 by omega]
  simp
theorem fillC_size {xs : List Int} {n k : Nat} (hl : xs.length = n) (hk : k ≤ n) : (fillC xs n k).size = n := by simp [fillC]; omega

/-- A number of an owned row is stored. -/
theorem Ow.store {w : World} {B n c k : Nat} {A : Option Addr} {zs : List Int} (h : Ow w B (.slice A n c) zs) (hk : k < n) :
    ∃ g x, A = some ⟨g, 0, none⟩ ∧ B ≤ g ∧ zs[k]? = some x ∧ w.cell? ⟨g, k, none⟩ = some (.int .i64 x) ∧ w.frozen? ⟨g, k, none⟩ = false ∧
      ∀ z, Ow (w.setCell ⟨g, k, none⟩ (.int .i64 z)) B (.slice (some ⟨g, 0, none⟩) n c) (zs.set k z) ∧ w.grownBy (w.setCell ⟨g, k, none⟩ (.int .i64 z)) (some g) := by
  have hn := h.len
  subst hn
  obtain ⟨g, cap, hv, hb, hlt⟩ := World.ownsRow.form h (by omega)
  injection hv with e1 e2 e3
  subst e1 e3
  refine ⟨g, zs[k], rfl, hb, List.getElem?_eq_getElem hk, ?_, World.ownsRow.frozenAt h k, fun z => ?_⟩
  · rw [World.ownsRow.cellAt h k (by omega)]
    simp [hk]
  · have := World.ownsRow.stored h k (.int .i64 z)
    refine ⟨?_, this.2⟩
    have h1 := this.1
    unfold Ow
    simpa [List.map_set] using h1

/-- k0, k0 + 1, .. -/
def iota (k0 : Int) (n : Nat) : List Int := (List.range n).map fun (i : Nat) => k0 + i
theorem iota_len (k0 : Int) (n : Nat) : (iota k0 n).length = n := by simp [iota]
theorem iota_at (k0 : Int) (n k : Nat) (h : k < n) : (iota k0 n)[k]? = some (k0 + k) := by simp [iota, h]
def mkC (xs : List Int) (k0 : Int) (k : Nat) : List Int := iota k0 k ++ xs.drop k
theorem mkC_zero (xs : List Int) (k0 : Int) : mkC xs k0 0 = xs := by simp [mkC, iota]
theorem mkC_next {xs : List Int} {k0 : Int} {k : Nat} (h : k < xs.length) : (mkC xs k0 k).set k (k0 + k) = mkC xs k0 (k + 1) := by
  unfold mkC
  rw [List.set_append, if_neg (by simp [iota_len]), iota_len, Nat.sub_self, List.drop_eq_getElem_cons h, List.set_cons_zero]
  simp [iota, List.range_succ]
theorem mkC_end {xs : List Int} {k0 : Int} {k : Nat} (h : xs.length ≤ k) (hk : k ≤ xs.length) : mkC xs k0 k = iota k0 xs.length := by
  obtain rfl : k = xs.length := by omega
  simp [mkC]

/-! ### For the exact laws: which objects a mark leaves alone -/
theorem Ow.block_lt {w : World} {B : Nat} {v : Value} {zs : List Int} (h : Ow w B v zs) : ∀ k, v.ownBlock = some k → k < w.heap.size := fun k hk => (World.ownsRow.lt h k hk).2
theorem Ow.block_ge {w : World} {B : Nat} {v : Value} {zs : List Int} (h : Ow w B v zs) : ∀ k, v.ownBlock = some k → B ≤ k := fun k hk => (World.ownsRow.lt h k hk).1
theorem Ow.other {w w' : World} {B : Nat} {v : Value} {zs : List Int} {row : Option Nat} (h : Ow w B v zs) (hg : w.grownBy w' row) (hne : ∀ k, row = some k → k < B) : Ow w' B v zs := by
  refine own_grown h hg ?_
  rcases hv : v.ownBlock with _ | k
  · exact .inl rfl
  · right
    intro e
    have h1 := h.block_ge k hv
    have h2 := hne k e.symm
    omega
theorem Ow.other2 {w w' : World} {B B2 : Nat} {v : Value} {zs : List Int} {row : Option Nat} (h : Ow w B v zs) (hg : w.grownBy w' row) (hlt : ∀ k, v.ownBlock = some k → k < B2) (hge : ∀ k, row = some k → B2 ≤ k) : Ow w' B v zs := by
  refine own_grown h hg ?_
  rcases hv : v.ownBlock with _ | k
  · exact .inl rfl
  · right
    intro e
    have h1 := hlt k hv
    have h2 := hge k e.symm
    omega
theorem below_own {W w w' : World} {B : Nat} {v : Value} {zs : List Int} (hB : Below W.heap.size W w) (h : Ow w B v zs) (hg : w.grownBy w' v.ownBlock) (hW : W.heap.size ≤ B) (hs : W.heap.size ≤ w.heap.size) : Below W.heap.size W w' :=
  hB.grown hg hs fun k hk => Nat.le_trans hW (h.block_ge k hk)
end Go.Proofs.YtjfmicemnoglkaaDoor
