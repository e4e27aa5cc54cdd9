/- Supports of the call's own: append, stores. -/
import Derived.Test.YtjfmicemnoglkaaSupP
import Derived.Test.YtjfmicemnoglkaaDraw
namespace Go.Proofs.Ytjfmicemnoglkaa
open Go.RowKit
set_option linter.unusedVariables false
set_option linter.unusedSimpArgs false

theorem info_sup : (Try.prog.info? 51).map (fun i => (i.zero, i.size, i.bytes)) = some (some (.agg #[.int .i64 0, .int .i64 0, .bool false]), 3, 24) := by kernel_rfl
/-- The slice value v owns supports in a row among the blocks from B on. -/
def OwL (w : World) (B : Nat) (v : Value) (rows : List (List Int)) : Prop := w.ownsRow B 51 3 v rows.length (SV rows) ∧ Even 3 rows
section
variable {w w' : World} {B : Nat} {v : Value} {rows : List (List Int)}
theorem OwL.rdL {A : Option Addr} {n c : Nat} (h : OwL w B (.slice A n c) rows) : RdL w A rows.length rows := by
  obtain ⟨A', c', e', _⟩ := own_shape h.1
  injection e' with e1 e2 e3
  subst e1 e2 e3
  exact ⟨Rd.of_own h.1, rfl, h.2⟩
theorem OwL.len_ {A : Option Addr} {n c : Nat} (h : OwL w B (.slice A n c) rows) : rows.length = n := by
  obtain ⟨A', c', e', _⟩ := own_shape h.1
  injection e' with e1 e2 e3
  exact e2.symm
theorem OwL.below (h : OwL w B v rows) (hb : Below w.heap.size w w') : OwL w' B v rows := ⟨own_below h.1 hb, h.2⟩
theorem OwL.alloc (h : OwL w B v rows) (o : Obj) : OwL (w.alloc o) B v rows := ⟨World.ownsRow.alloc h.1 o, h.2⟩
theorem OwL.base {B' : Nat} (h : OwL w B v rows) (hb : B' ≤ B) : OwL w B' v rows := ⟨own_base h.1 hb, h.2⟩
theorem OwL.gen {g : Nat} (h : OwL w B v rows) (hg : w.grownBy w' (some g)) (hB : g < B) : OwL w' B v rows := ⟨own_only h.1 hg hB, h.2⟩
theorem SV_oneCell : ∀ (rows : List (List Int)), ∀ u ∈ SV rows, u.oneCell' = true
  | [], u, h => by simp [SV] at h
  | r :: rs, u, h => by
    simp only [SV, List.mem_cons] at h
    rcases h with rfl | rfl | rfl | h
    · rfl
    · rfl
    · rfl
    · exact SV_oneCell rs u h
def bi (t : Bool) : Int := if t then 1 else 0
theorem bi_dec (t : Bool) : decide (bi t = 1) = t := by cases t <;> rfl
theorem SV_one (a b : Int) (t : Bool) : SV [[a, b, bi t]] = [.int .i64 a, .int .i64 b, .bool t] := by simp [SV, fld, bi_dec]
theorem OwL.one (w : World) (a b : Int) (t : Bool) (hB : B ≤ w.heap.size) : OwL (w.alloc (.cells #[.int .i64 a, .int .i64 b, .bool t] 51)) B (.slice (some ⟨w.heap.size, 0, none⟩) 1 1) [[a, b, bi t]] := by
  have := own_lit w 51 #[.int .i64 a, .int .i64 b, .bool t] 3 1 B (by simp) (by simp [maxLen]) hB
  refine ⟨?_, by simp [Even]⟩
  rw [SV_one]
  exact this
theorem OwL.take1 {g n c : Nat} (h : OwL w B (.slice (some ⟨g, 0, none⟩) n c) rows) (hn : 1 ≤ n) : OwL w B (.slice (some ⟨g, 0, none⟩) 1 c) (rows.take 1) := by
  have hl := h.len_
  have e : (rows.take 1).length = 1 := by simp; omega
  refine ⟨?_, fun r hr => h.2 r (List.mem_of_mem_take hr)⟩
  rw [e]
  obtain ⟨h1, h2⟩ := h.1
  refine ⟨by rw [SV_len, e], ?_⟩
  rcases h2 with ⟨h', _⟩ | ⟨g', cap, cur, h', hb, hh, hnc, hcm, hcs, ht⟩
  · simp at h'
  · refine .inr ⟨g', cap, cur, ?_, hb, hh, by omega, hcm, hcs, ?_⟩
    · injection h' with e1 e2 e3
      rw [e1, e3]
    · rw [SV_take, ← ht, List.take_take]
      congr 1
      omega
theorem OwL.cap {A : Option Addr} {n c : Nat} (h : OwL w B (.slice A n c) rows) : n ≤ c ∧ c ≤ 9223372036854775807 := by
  obtain ⟨A', c', e, h1, h2, _⟩ := own_shape h.1
  injection e with e1 e2 e3
  subst e1 e2 e3
  exact ⟨h1, by simp only [maxLen] at h2; omega⟩
theorem Cur.far3 {g b i j k : Nat} {S : Src} {K : Nat} (h : Cur w g S K) (hb : g < b) (u v z : Value) : Cur (((w.setCell ⟨b, i, none⟩ u).setCell ⟨b, j, none⟩ v).setCell ⟨b, k, none⟩ z) g S K :=
  ((h.far (p := ⟨b, i, none⟩) hb u).far (p := ⟨b, j, none⟩) hb v).far (p := ⟨b, k, none⟩) hb z
theorem only_set3 {a : World} {g b i j k : Nat} (h : a.grownBy w (some g)) (hb : a.heap.size ≤ b) (u v z : Value) : a.grownBy (((w.setCell ⟨b, i, none⟩ u).setCell ⟨b, j, none⟩ v).setCell ⟨b, k, none⟩ z) (some g) :=
  only_setCell (only_setCell (only_setCell h (p := ⟨b, i, none⟩) (.inr hb) u) (p := ⟨b, j, none⟩) (.inr hb) v) (p := ⟨b, k, none⟩) (.inr hb) z
/-- The cells of a row of the call's own. -/
theorem OwL.cells {A : Option Addr} {n c k : Nat} (h : OwL w B (.slice A n c) rows) (hk : k < n) :
    ∃ g x0 x1 x2, A = some ⟨g, 0, none⟩ ∧ B ≤ g ∧ g < w.heap.size ∧ rows[k]? = some [x0, x1, x2] ∧ w.cell? ⟨g, k * 3, none⟩ = some (.int .i64 x0) ∧ w.cell? ⟨g, k * 3 + 1, none⟩ = some (.int .i64 x1) ∧ w.cell? ⟨g, k * 3 + 2, none⟩ = some (.bool (decide (x2 = 1))) ∧ (∀ m, w.frozen? ⟨g, m, none⟩ = false) := by
  have hl := h.len_
  obtain ⟨b, off, x0, x1, x2, e, hr, hb, c0, c1, c2⟩ := h.rdL.row (k := k) (by omega)
  rcases h.1.2 with ⟨h', h0⟩ | ⟨g, cap, cur, h', hB, hh, _⟩
  · omega
  · injection h' with e1 e2 e3
    rw [e1] at e
    injection e with e
    injection e with e4 e5
    subst e4 e5
    refine ⟨g, x0, x1, x2, e1, hB, hb, hr, by simpa using c0, by simpa using c1, by simpa using c2, fun m => ?_⟩
    simp [World.frozen?, hh]
theorem SV_set0 : ∀ {rows : List (List Int)} {k : Nat} {a b c : Int} (z : Int), rows[k]? = some [a, b, c] → (SV rows).set (k * 3) (.int .i64 z) = SV (rows.set k [z, b, c])
  | [], _, _, _, _, _, h => by simp at h
  | r :: rs, 0, a, b, c, z, h => by simp at h; subst h; simp [SV, fld]
  | r :: rs, k + 1, a, b, c, z, h => by
    have ih := SV_set0 (rows := rs) (k := k) z (by simpa using h)
    rw [show (k + 1) * 3 = k * 3 + 3 by omega]
    simp [SV, ih]
theorem SV_set1 : ∀ {rows : List (List Int)} {k : Nat} {a b c : Int} (z : Int), rows[k]? = some [a, b, c] → (SV rows).set (k * 3 + 1) (.int .i64 z) = SV (rows.set k [a, z, c])
  | [], _, _, _, _, _, h => by simp at h
  | r :: rs, 0, a, b, c, z, h => by simp at h; subst h; simp [SV, fld]
  | r :: rs, k + 1, a, b, c, z, h => by
    have ih := SV_set1 (rows := rs) (k := k) z (by simpa using h)
    rw [show (k + 1) * 3 + 1 = k * 3 + 1 + 3 by omega]
    simp [SV, ih]
theorem SV_set2 : ∀ {rows : List (List Int)} {k : Nat} {a b c : Int} (t : Bool), rows[k]? = some [a, b, c] → (SV rows).set (k * 3 + 2) (.bool t) = SV (rows.set k [a, b, bi t])
  | [], _, _, _, _, _, h => by simp at h
  | r :: rs, 0, a, b, c, t, h => by simp at h; subst h; simp [SV, fld, bi_dec]
  | r :: rs, k + 1, a, b, c, t, h => by
    have ih := SV_set2 (rows := rs) (k := k) t (by simpa using h)
    rw [show (k + 1) * 3 + 2 = k * 3 + 2 + 3 by omega]
    simp [SV, ih]
theorem even_set {k : Nat} {a b c : Int} (h : Even 3 rows) : Even 3 (rows.set k [a, b, c]) := by
  intro x hx
  rcases List.mem_or_eq_of_mem_set hx with hx | rfl
  · exact h x hx
  · rfl
theorem OwL.set0 {g n c k : Nat} {a b d : Int} (h : OwL w B (.slice (some ⟨g, 0, none⟩) n c) rows) (hr : rows[k]? = some [a, b, d]) (z : Int) :
    OwL (w.setCell ⟨g, k * 3, none⟩ (.int .i64 z)) B (.slice (some ⟨g, 0, none⟩) n c) (rows.set k [z, b, d]) := by
  have hl := h.len_
  subst hl
  refine ⟨?_, even_set h.2⟩
  have := (World.ownsRow.stored h.1 (k * 3) (.int .i64 z)).1
  rw [SV_set0 z hr] at this
  rw [List.length_set]
  exact this
theorem OwL.set1 {g n c k : Nat} {a b d : Int} (h : OwL w B (.slice (some ⟨g, 0, none⟩) n c) rows) (hr : rows[k]? = some [a, b, d]) (z : Int) :
    OwL (w.setCell ⟨g, k * 3 + 1, none⟩ (.int .i64 z)) B (.slice (some ⟨g, 0, none⟩) n c) (rows.set k [a, z, d]) := by
  have hl := h.len_
  subst hl
  refine ⟨?_, even_set h.2⟩
  have := (World.ownsRow.stored h.1 (k * 3 + 1) (.int .i64 z)).1
  rw [SV_set1 z hr] at this
  rw [List.length_set]
  exact this
theorem OwL.set2 {g n c k : Nat} {a b d : Int} (h : OwL w B (.slice (some ⟨g, 0, none⟩) n c) rows) (hr : rows[k]? = some [a, b, d]) (t : Bool) :
    OwL (w.setCell ⟨g, k * 3 + 2, none⟩ (.bool t)) B (.slice (some ⟨g, 0, none⟩) n c) (rows.set k [a, b, bi t]) := by
  have hl := h.len_
  subst hl
  refine ⟨?_, even_set h.2⟩
  have := (World.ownsRow.stored h.1 (k * 3 + 2) (.bool t)).1
  rw [SV_set2 t hr] at this
  rw [List.length_set]
  exact this
theorem set_twiceL {k : Nat} {r r' : List Int} (h : rows[k]? = some r) : (rows.set k r')[k]? = some r' := by
  have hl := (List.getElem?_eq_some_iff.1 h).1
  simp [hl]
theorem OwL.put3 {g n c k : Nat} {a b d : Int} (h : OwL w B (.slice (some ⟨g, 0, none⟩) n c) rows) (hr : rows[k]? = some [a, b, d]) (z0 z1 : Int) (t : Bool) :
    OwL (((w.setCell ⟨g, k * 3, none⟩ (.int .i64 z0)).setCell ⟨g, k * 3 + 1, none⟩ (.int .i64 z1)).setCell ⟨g, k * 3 + 2, none⟩ (.bool t)) B (.slice (some ⟨g, 0, none⟩) n c) (rows.set k [z0, z1, bi t]) := by
  have h0 := h.set0 hr z0
  have r0 := set_twiceL (r' := [z0, b, d]) hr
  have h1 := h0.set1 r0 z1
  have r1 := set_twiceL (r' := [z0, z1, d]) r0
  have h2 := h1.set2 r1 t
  simpa using h2
end
/-- 'append(out, t)' of one support: the walk has just laid t in a block of its own. -/
theorem wp_app_Sup1 {ops : Array Oper} {rest : List Oper} {o : Oper} {a : Act} {Q : Exit → Act → World → Prop} (hgd : o.guard = none) (s x : Operand)
    (ho : o.op = .call { callee := .builtin .append, args := #[s, x], argTypes := #[24, 24] }) (w : World) (B : Nat) (v : Value) (rows : List (List Int)) (x0 x1 : Int) (t : Bool)
    (hs : a.eval s = v) (hown : OwL w B v rows) (hx : a.eval x = .slice (some ⟨w.heap.size, 0, none⟩) 1 1) (m : Nat) (hm : rows.length = m) (hl : m < 1000000) (hB : B ≤ w.heap.size)
    (h : ∀ A' c' w', OwL w' B (.slice A' (m + 1) c') (rows ++ [[x0, x1, bi t]]) → Below B w w' → wpList Try.prog ops Q rest (a.put o.dst (.slice A' (m + 1) c')) w') :
    wpList Try.prog ops Q (o :: rest) a (w.alloc (.cells #[.int .i64 x0, .int .i64 x1, .bool t] 51)) := by
  subst hm
  obtain ⟨i0, hi0, hz0, hz1, hz2⟩ := info_parts info_sup
  have hrd := (OwL.one (B := w.heap.size) w x0 x1 t (Nat.le_refl _)).rdL
  refine wpList_append_any _ hgd s x _ ho B 51 i0 _ 3 24 Try.underlying24 hi0 hz0 hz1 hz2 rfl (by omega) v rows.length (SV rows) hs (World.ownsRow.alloc hown.1 _) _ 1 1 (SV [[x0, x1, bi t]]) hx hrd.1 (SV_oneCell _)
    (by simp only [maxLen]; omega) (by omega) (by simp; omega) ?_
  intro A' c' w' hown' hg
  refine h A' c' w' ⟨?_, ?_⟩ ?_
  · rw [SV_append]
    simpa using hown'
  · intro r hr
    rcases List.mem_append.1 hr with hr | hr
    · exact hown.2 r hr
    · simp at hr; rw [hr]; rfl
  · exact ((Below.refl B w).alloc hB _).trans (below_grown (World.ownsRow.alloc hown.1 _) hg (Nat.le_refl _) (by simp; omega))
/-- Supports that were drawn. -/
def DrewL (w : World) (g : Nat) (S : Src) (K m : Nat) (e : Ending) (w' : World) : Prop :=
  ∃ A c rows, e = .returned (.slice A rows.length c) ∧ rows.length ≤ m ∧ OwL w' w.heap.size (.slice A rows.length c) rows ∧ Cur w' g S K ∧ w.grownBy w' (some g)
theorem DrewL.mk {w w' : World} {g : Nat} {S : Src} {K m : Nat} {A : Option Addr} {n c : Nat} {rows : List (List Int)} (hn : n ≤ m) (ho : OwL w' w.heap.size (.slice A n c) rows) (hC : Cur w' g S K) (hG : w.grownBy w' (some g)) : DrewL w g S K m (.returned (.slice A n c)) w' := by
  obtain rfl := ho.len_
  exact ⟨A, c, rows, rfl, hn, ho, hC, hG⟩
end Go.Proofs.Ytjfmicemnoglkaa
