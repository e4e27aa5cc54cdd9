/- Structs and slices of structs that came in: their cells. No function of the program in sight. -/
import Derived.Test.YtobcgcdjoogfnaaKit
namespace Go.Proofs.Ytobcgcdjoogfnaa
open Go.RowKit
set_option linter.unusedVariables false
set_option linter.unusedSimpArgs false

section
open Go.WideShapes Go.ChangeShapes Go.ChangeAt Go.Deep
variable {H : Type} {enc : TypeId × Value → H} {P : Program} {w : World} {base : Nat} {spare : Nat → Bool} {held : Bool}
/-- Are all fields numbers? -/
def intFields (P : Program) (fs : Array Field) : Bool := fs.toList.all fun f => match P.underlying f.type with | some (.int .i64) => true | _ => false
theorem intFields_at {fs : Array Field} (h : intFields P fs = true) {j : Nat} {f : Field} (hf : fs[j]? = some f) : P.underlying f.type = some (.int .i64) := by
  have hm : f ∈ fs.toList := by
    obtain ⟨hj, e⟩ := Array.getElem?_eq_some_iff.1 hf
    rw [← e]
    simp
  have := List.all_eq_true.1 h f hm
  revert this
  split
  · intro _; assumption
  · intro h; cases h
theorem cells_ints : ∀ (cs : List Value), (∀ j, j < cs.length → ∃ z, (cs.drop j).take 1 = [.int .i64 z] ∧ (Lit.int .i64 z).wf = true) → ∃ zs : List Int, cs = IV zs ∧ ∀ z ∈ zs, (Lit.int .i64 z).wf = true
  | [], _ => ⟨[], rfl, by simp⟩
  | c :: r, h => by
    obtain ⟨z, hz, hw⟩ := h 0 (by simp)
    obtain ⟨zs, e, hws⟩ := cells_ints r fun j hj => by
      have := h (j + 1) (by simp; omega)
      simpa using this
    simp at hz
    exact ⟨z :: zs, by simp [hz, e], by simpa using ⟨hw, hws⟩⟩
/-- A struct of numbers, cell by cell. -/
theorem view_cells {e : TypeId} {fs : Array Field} {fuel : Nat} {cs : List Value} {x : DataW H × List MemPlace} (he : P.underlying e = some (.struct fs)) (hone : oneCellFields P fs = true) (hC : P.cellsOf e = fs.size)
    (hi : intFields P fs = true) (h : DataW.trod enc P w base spare held fuel e cs = some x) : ∃ zs : List Int, cs = IV zs ∧ zs.length = fs.size ∧ ∀ z ∈ zs, (Lit.int .i64 z).wf = true := by
  obtain ⟨xs, n, _, _, hl, hxl, hf⟩ := DataW.trod_struct he h
  obtain ⟨zs, rfl, hw⟩ := cells_ints cs fun j hj => by
    have hjf : j < fs.size := by omega
    have hfj : fs[j]? = some fs[j] := Array.getElem?_eq_getElem hjf
    obtain ⟨ho, hk⟩ := hone_of hone j _ hfj
    have h1 := hf j _ hfj
    rw [ho, hk] at h1
    have hx : xs[j]? = some (xs[j]'(by omega)) := List.getElem?_eq_getElem (by omega)
    obtain ⟨z, hz, _, hwz⟩ := DataW.trod_int (intFields_at hi hfj) (h1.trans hx)
    exact ⟨z, hz, hwz⟩
  exact ⟨zs, rfl, by simpa [hC] using hl, hw⟩
/-- An argument that is a struct of numbers. -/
theorem view_agg {r : Reach} {b0 : Nat} {t : TypeId} {fs : Array Field} {v : Value} {d : DataW H} {p : List MemPlace} (hs : P.underlying t = some (.struct fs)) (hone : oneCellFields P fs = true) (hC : P.cellsOf t = fs.size)
    (hi : intFields P fs = true) (hv : Value.okWide P w r b0 t v) (h : DataW.Trod enc P w base spare held t v d p) : ∃ zs : List Int, v = .agg (IV zs).toArray ∧ zs.length = fs.size ∧ ∀ z ∈ zs, (Lit.int .i64 z).wf = true := by
  obtain ⟨cs, rfl, hsz⟩ := okWide_struct hs hv
  obtain ⟨fuel, hf⟩ := h
  obtain ⟨zs, hz, hl, hw⟩ := view_cells hs hone hC hi hf
  refine ⟨zs, ?_, hl, hw⟩
  have : cs.toList = IV zs := by simpa [Value.cells] using hz
  rw [← this]
/-- An argument that is a struct of one-cell fields: its cells and each field's own reading. -/
theorem view_fields {r : Reach} {b0 : Nat} {t : TypeId} {fs : Array Field} {v : Value} {d : DataW H} {p : List MemPlace} (hs : P.underlying t = some (.struct fs)) (hone : oneCellFields P fs = true) (hC : P.cellsOf t = fs.size)
    (hv : Value.okWide P w r b0 t v) (h : DataW.Trod enc P w base spare held t v d p) :
    ∃ (us : List Value) (n : Nat), v = .agg us.toArray ∧ us.length = fs.size ∧ ∀ (j : Nat) (f : Field), fs[j]? = some f → ∃ u y, us[j]? = some u ∧ DataW.trod enc P w base spare held n f.type [u] = some y := by
  obtain ⟨cs, rfl, hsz⟩ := okWide_struct hs hv
  obtain ⟨fuel, hf⟩ := h
  obtain ⟨xs, n, _, _, hl, hxl, hg⟩ := DataW.trod_struct hs hf
  refine ⟨cs.toList, n, by simp, by simp; omega, fun j f hj => ?_⟩
  have hjf : j < fs.size := (Array.getElem?_eq_some_iff.1 hj).1
  obtain ⟨ho, hk⟩ := hone_of hone j f hj
  have h1 := hg j f hj
  rw [ho, hk] at h1
  have hcs : (Value.agg cs).cells.toList = cs.toList := by simp [Value.cells]
  rw [hcs] at h1
  have hjc : j < cs.toList.length := by simp; omega
  rw [List.drop_eq_getElem_cons hjc] at h1
  have hx : xs[j]? = some (xs[j]'(by omega)) := List.getElem?_eq_getElem (by omega)
  exact ⟨_, _, List.getElem?_eq_getElem hjc, (by simpa using h1.trans hx)⟩
end
theorem len1 {zs : List Int} (h : zs.length = 1) : ∃ a, zs = [a] := match zs, h with | [a], _ => ⟨a, rfl⟩
theorem len2 {zs : List Int} (h : zs.length = 2) : ∃ a b, zs = [a, b] := match zs, h with | [a, b], _ => ⟨a, b, rfl⟩
theorem len3 {zs : List Int} (h : zs.length = 3) : ∃ a b c, zs = [a, b, c] := match zs, h with | [a, b, c], _ => ⟨a, b, c, rfl⟩
theorem len4 {zs : List Int} (h : zs.length = 4) : ∃ a b c d, zs = [a, b, c, d] := match zs, h with | [a, b, c, d], _ => ⟨a, b, c, d, rfl⟩
theorem len5 {zs : List Int} (h : zs.length = 5) : ∃ a b c d e, zs = [a, b, c, d, e] := match zs, h with | [a, b, c, d, e], _ => ⟨a, b, c, d, e, rfl⟩
theorem len6 {zs : List Int} (h : zs.length = 6) : ∃ a b c d e f, zs = [a, b, c, d, e, f] := match zs, h with | [a, b, c, d, e, f], _ => ⟨a, b, c, d, e, f, rfl⟩
theorem len7 {zs : List Int} (h : zs.length = 7) : ∃ a b c d e f g, zs = [a, b, c, d, e, f, g] := match zs, h with | [a, b, c, d, e, f, g], _ => ⟨a, b, c, d, e, f, g, rfl⟩
end Go.Proofs.Ytobcgcdjoogfnaa
