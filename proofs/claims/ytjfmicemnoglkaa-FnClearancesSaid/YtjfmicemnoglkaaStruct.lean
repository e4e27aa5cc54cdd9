/- Structs and slices of structs that came in: their cells. No function of the program in sight. -/
import Derived.Test.YtjfmicemnoglkaaKit
namespace Go.Proofs.Ytjfmicemnoglkaa
open Go.RowKit
set_option linter.unusedVariables false
set_option linter.unusedSimpArgs false

section
open Go.WideShapes Go.ChangeShapes Go.ChangeAt Go.Deep
variable {H : Type} {enc : TypeId × Value → H} {P : Program} {w : World} {base : Nat} {spare : Nat → Bool} {held : Bool}
/-- Are all fields numbers? -/
def intFields (P : Program) (fs : Array Field) : Bool := fs.toList.all fun f => match P.underlying f.type with | some (.int .i64) => true | _ => false
theorem intFields_at {fs : Array Field} (h : intFields P fs = true) {j : Nat} {f : Field} (hf : fs[j]? = some f) : P.underlying f.type = some (.int .i64) := by
  have hm : f ∈ fs.toList := by
    obtain ⟨hj, e⟩ := Array.getElem?_eq_some_iff.1 hf
    rw [← e]
    simp
  have := List.all_eq_true.1 h f hm
  revert this
  split
  · intro _; assumption
  · intro h; cases h
theorem cells_ints : ∀ (cs : List Value), (∀ j, j < cs.length → ∃ z, (cs.drop j).take 1 = [.int .i64 z] ∧ (Lit.int .i64 z).wf = true) → ∃ zs : List Int, cs = IV zs ∧ ∀ z ∈ zs, (Lit.int .i64 z).wf = true
  | [], _ => ⟨[], rfl, by simp⟩
  | c :: r, h => by
    obtain ⟨z, hz, hw⟩ := h 0 (by simp)
    obtain ⟨zs, e, hws⟩ := cells_ints r fun j hj => by
      have := h (j + 1) (by simp; omega)
      simpa using this
    simp at hz
    exact ⟨z :: zs, by simp [hz, e], by simpa using ⟨hw, hws⟩⟩
/-- A struct of numbers, cell by cell. -/
theorem view_cells {e : TypeId} {fs : Array Field} {fuel : Nat} {cs : List Value} {x : DataW H × List MemPlace} (he : P.underlying e = some (.struct fs)) (hone : oneCellFields P fs = true) (hC : P.cellsOf e = fs.size)
    (hi : intFields P fs = true) (h : DataW.trod enc P w base spare held fuel e cs = some x) : ∃ zs : List Int, cs = IV zs ∧ zs.length = fs.size ∧ ∀ z ∈ zs, (Lit.int .i64 z).wf = true := by
  obtain ⟨xs, n, _, _, hl, hxl, hf⟩ := DataW.trod_struct he h
  obtain ⟨zs, rfl, hw⟩ := cells_ints cs fun j hj => by
    have hjf : j < fs.size := by omega
    have hfj : fs[j]? = some fs[j] := Array.getElem?_eq_getElem hjf
    obtain ⟨ho, hk⟩ := hone_of hone j _ hfj
    have h1 := hf j _ hfj
    rw [ho, hk] at h1
    have hx : xs[j]? = some (xs[j]'(by omega)) := List.getElem?_eq_getElem (by omega)
    obtain ⟨z, hz, _, hwz⟩ := DataW.trod_int (intFields_at hi hfj) (h1.trans hx)
    exact ⟨z, hz, hwz⟩
  exact ⟨zs, rfl, by simpa [hC] using hl, hw⟩
/-- An argument that is a struct of numbers. -/
theorem view_agg {r : Reach} {b0 : Nat} {t : TypeId} {fs : Array Field} {v : Value} {d : DataW H} {p : List MemPlace} (hs : P.underlying t = some (.struct fs)) (hone : oneCellFields P fs = true) (hC : P.cellsOf t = fs.size)
    (hi : intFields P fs = true) (hv : Value.okWide P w r b0 t v) (h : DataW.Trod enc P w base spare held t v d p) : ∃ zs : List Int, v = .agg (IV zs).toArray ∧ zs.length = fs.size ∧ ∀ z ∈ zs, (Lit.int .i64 z).wf = true := by
  obtain ⟨cs, rfl, hsz⟩ := okWide_struct hs hv
  obtain ⟨fuel, hf⟩ := h
  obtain ⟨zs, hz, hl, hw⟩ := view_cells hs hone hC hi hf
  refine ⟨zs, ?_, hl, hw⟩
  have : cs.toList = IV zs := by simpa [Value.cells] using hz
  rw [← this]
/-- An argument that is a struct of one-cell fields: its cells and each field's own reading. -/
theorem view_fields {r : Reach} {b0 : Nat} {t : TypeId} {fs : Array Field} {v : Value} {d : DataW H} {p : List MemPlace} (hs : P.underlying t = some (.struct fs)) (hone : oneCellFields P fs = true) (hC : P.cellsOf t = fs.size)
    (hv : Value.okWide P w r b0 t v) (h : DataW.Trod enc P w base spare held t v d p) :
    ∃ (us : List Value) (n : Nat), v = .agg us.toArray ∧ us.length = fs.size ∧ ∀ (j : Nat) (f : Field), fs[j]? = some f → ∃ u y, us[j]? = some u ∧ DataW.trod enc P w base spare held n f.type [u] = some y := by
  obtain ⟨cs, rfl, hsz⟩ := okWide_struct hs hv
  obtain ⟨fuel, hf⟩ := h
  obtain ⟨xs, n, _, _, hl, hxl, hg⟩ := DataW.trod_struct hs hf
  refine ⟨cs.toList, n, by simp, by simp; omega, fun j f hj => ?_⟩
  have hjf : j < fs.size := (Array.getElem?_eq_some_iff.1 hj).1
  obtain ⟨ho, hk⟩ := hone_of hone j f hj
  have h1 := hg j f hj
  rw [ho, hk] at h1
  have hcs : (Value.agg cs).cells.toList = cs.toList := by simp [Value.cells]
  rw [hcs] at h1
  have hjc : j < cs.toList.length := by simp; omega
  rw [List.drop_eq_getElem_cons hjc] at h1
  have hx : xs[j]? = some (xs[j]'(by omega)) := List.getElem?_eq_getElem (by omega)
  exact ⟨_, _, List.getElem?_eq_getElem hjc, (by simpa using h1.trans hx)⟩

theorem IV_at {zs : List Int} {q : Nat} {z : Int} (h : zs[q]? = some z) : (IV zs)[q]? = some (.int .i64 z) := by simp [IV, h]
/-- Rows of one length, end to end. -/
def Even (F : Nat) (rows : List (List Int)) : Prop := ∀ r ∈ rows, r.length = F
theorem flat_len {F : Nat} : ∀ {rows : List (List Int)}, Even F rows → rows.flatten.length = rows.length * F
  | [], _ => by simp
  | r :: rows, h => by
    have h1 := h r (by simp)
    have h2 := flat_len (rows := rows) fun x hx => h x (by simp [hx])
    simp only [List.flatten_cons, List.length_append, List.length_cons, h1, h2, Nat.add_mul, Nat.one_mul]
    omega
theorem flat_at {F : Nat} : ∀ {rows : List (List Int)} {k j : Nat} {r : List Int}, Even F rows → rows[k]? = some r → j < F → rows.flatten[k * F + j]? = r[j]?
  | [], _, _, _, _, h, _ => by simp at h
  | r0 :: rows, 0, j, r, he, h, hj => by
    simp at h
    subst h
    have h1 := he r0 (by simp)
    simp only [List.flatten_cons, Nat.zero_mul, Nat.zero_add]
    rw [List.getElem?_append_left (by omega)]
  | r0 :: rows, k + 1, j, r, he, h, hj => by
    have h1 := he r0 (by simp)
    have h2 := flat_at (rows := rows) (k := k) (j := j) (r := r) (fun x hx => he x (by simp [hx])) (by simpa using h) hj
    simp only [List.flatten_cons]
    rw [List.getElem?_append_right (by rw [h1, Nat.add_mul]; omega), h1, ← h2]
    congr 1
    rw [Nat.add_mul]
    omega
/-- Field number j of a row. -/
abbrev fld (r : List Int) (j : Nat) : Int := r.getD j 0
theorem fld_at {F : Nat} {r : List Int} {j : Nat} (h : r.length = F) (hj : j < F) : r[j]? = some (fld r j) := by
  have : j < r.length := by omega
  simp [fld, List.getD, List.getElem?_eq_getElem this]
/-- A slice of structs of numbers that reads as rows. -/
def RdR (w : World) (F : Nat) (A : Option Addr) (n : Nat) (rows : List (List Int)) : Prop := Rd w F A n (IV rows.flatten) ∧ Even F rows ∧ rows.length = n
theorem RdR.row {w : World} {F : Nat} {A : Option Addr} {n k : Nat} {rows : List (List Int)} (h : RdR w F A n rows) (hk : k < n) :
    ∃ b off r, A = some ⟨b, off, none⟩ ∧ rows[k]? = some r ∧ r.length = F ∧ ∀ j, j < F → w.cell? ⟨b, off + (k * F + j), none⟩ = some (.int .i64 (fld r j)) := by
  obtain ⟨hr, he, hl⟩ := h
  obtain ⟨b, off, e, hc⟩ := hr.2 (by omega)
  have hkr : k < rows.length := by omega
  have hrow : rows[k]? = some rows[k] := List.getElem?_eq_getElem hkr
  have hF := he rows[k] (List.getElem_mem hkr)
  refine ⟨b, off, rows[k], e, hrow, hF, fun j hj => hc _ _ ?_⟩
  have h1 := flat_at he hrow hj
  rw [fld_at hF hj] at h1
  exact IV_at h1
/-- A slice of structs of numbers that came in. -/
def CameR (F : Nat) (w : World) (A : Option Addr) (n c : Nat) (rows : List (List Int)) : Prop :=
  RdR w F A n rows ∧ n ≤ c ∧ c ≤ maxLen ∧ (∀ r ∈ rows, ∀ z ∈ r, (Lit.int .i64 z).wf = true) ∧ (A = none → c = 0)
theorem view_rows_cells {t e : TypeId} {fs : Array Field} {fuel : Nat} {v : Value} {x : DataW H × List MemPlace} (ht : P.underlying t = some (.slice e)) (he : P.underlying e = some (.struct fs)) (hone : oneCellFields P fs = true) (hC : P.cellsOf e = fs.size) (hF : 0 < fs.size)
    (hi : intFields P fs = true) (h : DataW.trod enc P w base (fun _ => true) held fuel t [v] = some x) : ∃ A n c rows, v = .slice A n c ∧ CameR fs.size w A n c rows := by
  rcases open_slice ht h with ⟨hcs, _⟩ | ⟨a, len, cap, m, nn, D, Pl, hcs, _, hl, hm, hmm, _, hel⟩
  · simp at hcs
    exact ⟨none, 0, 0, [], hcs, ⟨Rd.nil _ _ _, by simp [Even], rfl⟩, Nat.le_refl _, by simp [maxLen], by simp, fun _ => rfl⟩
  · simp at hcs
    have hlm : len ≤ m := by rw [hmm]; simpa using hl
    have key : ∀ l, l ≤ len → ∃ rows : List (List Int), rows.length = l ∧ Even fs.size rows ∧ (∀ r ∈ rows, ∀ z ∈ r, (Lit.int .i64 z).wf = true) ∧
        ∀ i r, rows[i]? = some r → ∀ j, j < fs.size → w.cell? (a.add (i * fs.size + j)) = some (.int .i64 (fld r j)) := by
      intro l
      induction l with
      | zero => intro _; exact ⟨[], rfl, by simp [Even], by simp, by simp⟩
      | succ l ih =>
        intro hle
        obtain ⟨rows, h1, h2, h3, h4⟩ := ih (by omega)
        obtain ⟨cs', hcc, htr⟩ := hel l (by omega)
        obtain ⟨zs, rfl, hzl, hzw⟩ := view_cells he hone hC hi htr
        obtain ⟨_, hcl, hat⟩ := World.cells?_some hcc
        rw [hC] at hat
        refine ⟨rows ++ [zs], by simp [h1], ?_, ?_, ?_⟩
        · intro r hr
          rcases List.mem_append.1 hr with hr | hr
          · exact h2 r hr
          · simp at hr; rw [hr]; exact hzl
        · intro r hr
          rcases List.mem_append.1 hr with hr | hr
          · exact h3 r hr
          · simp at hr; rw [hr]; exact hzw
        · intro i r hr j hj
          rcases Nat.lt_trichotomy i rows.length with hi' | hi' | hi'
          · rw [List.getElem?_append_left hi'] at hr
            exact h4 i r hr j hj
          · subst hi'
            rw [List.getElem?_append_right (Nat.le_refl _)] at hr
            simp at hr
            subst hr
            have := hat j hj
            rw [h1, ← add_add, this]
            exact IV_at (fld_at hzl hj)
          · rw [List.getElem?_append_right (by omega)] at hr
            have : ([zs] : List (List Int))[i - rows.length]? = none := by simp; omega
            rw [this] at hr
            cases hr
    obtain ⟨rows, h1, h2, h3, h4⟩ := key len (Nat.le_refl _)
    refine ⟨some a, len, cap, rows, hcs, ⟨⟨by rw [IV_len, flat_len h2, h1], fun hn => ?_⟩, h2, h1⟩, hl, hm, h3, fun h => by cases h⟩
    have hF : 0 < fs.size ∨ fs.size = 0 := .inl hF
    obtain ⟨b, off, spot⟩ := a
    rcases hF with hF | hF
    · have hr0 : rows[0]? = some rows[0] := List.getElem?_eq_getElem (by omega)
      have h0 := h4 0 _ hr0 0 hF
      have hspot : spot = none := by simpa [Addr.add] using World.cell?_spot h0
      subst hspot
      refine ⟨b, off, rfl, fun q u hu => ?_⟩
      have hq : q < len * fs.size := by
        have := (List.getElem?_eq_some_iff.1 hu).1
        rwa [IV_len, flat_len h2, h1] at this
      have hk : q / fs.size < len := Nat.div_lt_of_lt_mul (by rwa [Nat.mul_comm] at hq)
      have hj : q % fs.size < fs.size := Nat.mod_lt _ hF
      have hrow : rows[q / fs.size]? = some (rows[q / fs.size]'(by omega)) := List.getElem?_eq_getElem (by omega)
      have hc := h4 _ _ hrow _ hj
      have hfl := flat_at h2 hrow hj
      have e : q / fs.size * fs.size + q % fs.size = q := by rw [Nat.mul_comm]; exact Nat.div_add_mod q fs.size
      rw [e] at hc hfl
      rw [fld_at (h2 _ (List.getElem_mem _)) hj] at hfl
      rw [IV_at hfl] at hu
      injection hu with hu
      rw [← hu]
      rw [Addr.add_lit] at hc
      exact hc
    · omega
theorem view_rows {r : Reach} {b0 : Nat} {t e : TypeId} {fs : Array Field} {v : Value} {d : DataW H} {p : List MemPlace} (ht : P.underlying t = some (.slice e)) (he : P.underlying e = some (.struct fs)) (hone : oneCellFields P fs = true) (hC : P.cellsOf e = fs.size) (hF : 0 < fs.size)
    (hi : intFields P fs = true) (hv : Value.okWide P w r b0 t v) (h : DataW.Trod enc P w base (fun _ => true) held t v d p) : ∃ A n c rows, v = .slice A n c ∧ CameR fs.size w A n c rows := by
  obtain ⟨a, l, c, rfl⟩ := okWide_slice ht hv
  obtain ⟨fuel, hf⟩ := h
  exact view_rows_cells ht he hone hC hF hi (by simpa [Value.cells] using hf)
end
theorem len1 {zs : List Int} (h : zs.length = 1) : ∃ a, zs = [a] := match zs, h with | [a], _ => ⟨a, rfl⟩
theorem len2 {zs : List Int} (h : zs.length = 2) : ∃ a b, zs = [a, b] := match zs, h with | [a, b], _ => ⟨a, b, rfl⟩
theorem len3 {zs : List Int} (h : zs.length = 3) : ∃ a b c, zs = [a, b, c] := match zs, h with | [a, b, c], _ => ⟨a, b, c, rfl⟩
theorem len4 {zs : List Int} (h : zs.length = 4) : ∃ a b c d, zs = [a, b, c, d] := match zs, h with | [a, b, c, d], _ => ⟨a, b, c, d, rfl⟩
theorem len5 {zs : List Int} (h : zs.length = 5) : ∃ a b c d e, zs = [a, b, c, d, e] := match zs, h with | [a, b, c, d, e], _ => ⟨a, b, c, d, e, rfl⟩
theorem len6 {zs : List Int} (h : zs.length = 6) : ∃ a b c d e f, zs = [a, b, c, d, e, f] := match zs, h with | [a, b, c, d, e, f], _ => ⟨a, b, c, d, e, f, rfl⟩
theorem len7 {zs : List Int} (h : zs.length = 7) : ∃ a b c d e f g, zs = [a, b, c, d, e, f, g] := match zs, h with | [a, b, c, d, e, f, g], _ => ⟨a, b, c, d, e, f, g, rfl⟩
theorem RdR.row2 {w : World} {A : Option Addr} {n k : Nat} {rows : List (List Int)} (h : RdR w 2 A n rows) (hk : k < n) :
    ∃ b off x0 x1, A = some ⟨b, off, none⟩ ∧ rows[k]? = some [x0, x1] ∧ b < w.heap.size ∧ w.cell? ⟨b, off + k * 2, none⟩ = some (.int .i64 x0) ∧ w.cell? ⟨b, off + k * 2 + 1, none⟩ = some (.int .i64 x1) := by
  obtain ⟨b, off, r, e, hr, hl, hc⟩ := h.row hk
  obtain ⟨x0, x1, rfl⟩ := len2 hl
  have h0 := hc 0 (by omega)
  exact ⟨b, off, x0, x1, e, hr, World.block_lt_of_cell? w _ h0, by simpa [fld, Nat.add_assoc] using hc 0 (by omega), by simpa [fld, Nat.add_assoc] using hc 1 (by omega)⟩
theorem RdR.row3 {w : World} {A : Option Addr} {n k : Nat} {rows : List (List Int)} (h : RdR w 3 A n rows) (hk : k < n) :
    ∃ b off x0 x1 x2, A = some ⟨b, off, none⟩ ∧ rows[k]? = some [x0, x1, x2] ∧ b < w.heap.size ∧ w.cell? ⟨b, off + k * 3, none⟩ = some (.int .i64 x0) ∧ w.cell? ⟨b, off + k * 3 + 1, none⟩ = some (.int .i64 x1) ∧ w.cell? ⟨b, off + k * 3 + 2, none⟩ = some (.int .i64 x2) := by
  obtain ⟨b, off, r, e, hr, hl, hc⟩ := h.row hk
  obtain ⟨x0, x1, x2, rfl⟩ := len3 hl
  have h0 := hc 0 (by omega)
  exact ⟨b, off, x0, x1, x2, e, hr, World.block_lt_of_cell? w _ h0, by simpa [fld, Nat.add_assoc] using hc 0 (by omega), by simpa [fld, Nat.add_assoc] using hc 1 (by omega), by simpa [fld, Nat.add_assoc] using hc 2 (by omega)⟩
theorem RdR.row4 {w : World} {A : Option Addr} {n k : Nat} {rows : List (List Int)} (h : RdR w 4 A n rows) (hk : k < n) :
    ∃ b off x0 x1 x2 x3, A = some ⟨b, off, none⟩ ∧ rows[k]? = some [x0, x1, x2, x3] ∧ b < w.heap.size ∧ w.cell? ⟨b, off + k * 4, none⟩ = some (.int .i64 x0) ∧ w.cell? ⟨b, off + k * 4 + 1, none⟩ = some (.int .i64 x1) ∧ w.cell? ⟨b, off + k * 4 + 2, none⟩ = some (.int .i64 x2) ∧ w.cell? ⟨b, off + k * 4 + 3, none⟩ = some (.int .i64 x3) := by
  obtain ⟨b, off, r, e, hr, hl, hc⟩ := h.row hk
  obtain ⟨x0, x1, x2, x3, rfl⟩ := len4 hl
  have h0 := hc 0 (by omega)
  exact ⟨b, off, x0, x1, x2, x3, e, hr, World.block_lt_of_cell? w _ h0, by simpa [fld, Nat.add_assoc] using hc 0 (by omega), by simpa [fld, Nat.add_assoc] using hc 1 (by omega), by simpa [fld, Nat.add_assoc] using hc 2 (by omega), by simpa [fld, Nat.add_assoc] using hc 3 (by omega)⟩
theorem RdR.row5 {w : World} {A : Option Addr} {n k : Nat} {rows : List (List Int)} (h : RdR w 5 A n rows) (hk : k < n) :
    ∃ b off x0 x1 x2 x3 x4, A = some ⟨b, off, none⟩ ∧ rows[k]? = some [x0, x1, x2, x3, x4] ∧ b < w.heap.size ∧ w.cell? ⟨b, off + k * 5, none⟩ = some (.int .i64 x0) ∧ w.cell? ⟨b, off + k * 5 + 1, none⟩ = some (.int .i64 x1) ∧ w.cell? ⟨b, off + k * 5 + 2, none⟩ = some (.int .i64 x2) ∧ w.cell? ⟨b, off + k * 5 + 3, none⟩ = some (.int .i64 x3) ∧ w.cell? ⟨b, off + k * 5 + 4, none⟩ = some (.int .i64 x4) := by
  obtain ⟨b, off, r, e, hr, hl, hc⟩ := h.row hk
  obtain ⟨x0, x1, x2, x3, x4, rfl⟩ := len5 hl
  have h0 := hc 0 (by omega)
  exact ⟨b, off, x0, x1, x2, x3, x4, e, hr, World.block_lt_of_cell? w _ h0, by simpa [fld, Nat.add_assoc] using hc 0 (by omega), by simpa [fld, Nat.add_assoc] using hc 1 (by omega), by simpa [fld, Nat.add_assoc] using hc 2 (by omega), by simpa [fld, Nat.add_assoc] using hc 3 (by omega), by simpa [fld, Nat.add_assoc] using hc 4 (by omega)⟩
theorem RdR.row6 {w : World} {A : Option Addr} {n k : Nat} {rows : List (List Int)} (h : RdR w 6 A n rows) (hk : k < n) :
    ∃ b off x0 x1 x2 x3 x4 x5, A = some ⟨b, off, none⟩ ∧ rows[k]? = some [x0, x1, x2, x3, x4, x5] ∧ b < w.heap.size ∧ w.cell? ⟨b, off + k * 6, none⟩ = some (.int .i64 x0) ∧ w.cell? ⟨b, off + k * 6 + 1, none⟩ = some (.int .i64 x1) ∧ w.cell? ⟨b, off + k * 6 + 2, none⟩ = some (.int .i64 x2) ∧ w.cell? ⟨b, off + k * 6 + 3, none⟩ = some (.int .i64 x3) ∧ w.cell? ⟨b, off + k * 6 + 4, none⟩ = some (.int .i64 x4) ∧ w.cell? ⟨b, off + k * 6 + 5, none⟩ = some (.int .i64 x5) := by
  obtain ⟨b, off, r, e, hr, hl, hc⟩ := h.row hk
  obtain ⟨x0, x1, x2, x3, x4, x5, rfl⟩ := len6 hl
  have h0 := hc 0 (by omega)
  exact ⟨b, off, x0, x1, x2, x3, x4, x5, e, hr, World.block_lt_of_cell? w _ h0, by simpa [fld, Nat.add_assoc] using hc 0 (by omega), by simpa [fld, Nat.add_assoc] using hc 1 (by omega), by simpa [fld, Nat.add_assoc] using hc 2 (by omega), by simpa [fld, Nat.add_assoc] using hc 3 (by omega), by simpa [fld, Nat.add_assoc] using hc 4 (by omega), by simpa [fld, Nat.add_assoc] using hc 5 (by omega)⟩
end Go.Proofs.Ytjfmicemnoglkaa
