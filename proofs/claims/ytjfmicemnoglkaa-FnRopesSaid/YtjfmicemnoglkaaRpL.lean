/- append onto lists of kinds of ropes and of damages of the call's own. -/
import Derived.Test.YtjfmicemnoglkaaFlat
import Derived.Test.YtjfmicemnoglkaaPut
import Derived.Test.YtjfmicemnoglkaaDraw
namespace Go.Proofs.Ytjfmicemnoglkaa
open Go.RowKit
set_option linter.unusedVariables false
set_option linter.unusedSimpArgs false

theorem OwR.gen {w w' : World} {B : Nat} {t : TypeId} {F : Nat} {v : Value} {rows : List (List Int)} {g : Nat} (h : OwR w B t F v rows) (hg : w.grownBy w' (some g)) (hB : g < B) : OwR w' B t F v rows := h.other hg (fun k hk => by injection hk with hk; omega)
theorem OwR.len_ {w : World} {B : Nat} {t : TypeId} {F : Nat} {A : Option Addr} {n c : Nat} {rows : List (List Int)} (h : OwR w B t F (.slice A n c) rows) : rows.length = n := by
  obtain ⟨A', c', e, _⟩ := h.1.shape
  injection e with e1 e2 e3
  exact e2.symm
theorem info_RopeKind : (Try.prog.info? 85).map (fun i => (i.zero, i.size, i.bytes)) = some (some (.agg #[.int .i64 0, .int .i64 0, .int .i64 0, .int .i64 0, .int .i64 0]), 5, 40) := by kernel_rfl
theorem RdR.cat_RopeKind {w : World} {B n m c : Nat} {A : Option Addr} {rows ys : List (List Int)} (he : Even 5 rows) (he' : Even 5 ys) (hn : rows.length + m = (rows ++ ys).length)
    (h : w.ownsRow B 85 5 (.slice A (rows.length + m) c) (rows.length + m) (IV rows.flatten ++ IV ys.flatten)) : OwR w B 85 5 (.slice A (rows ++ ys).length c) (rows ++ ys) := by
  refine ⟨?_, ?_⟩
  · unfold OwF
    rw [← hn, List.flatten_append]
    simpa using h
  · intro r hr
    rcases List.mem_append.1 hr with h1 | h1
    · exact he r h1
    · exact he' r h1
/-- 'append(out, l...)'. -/
theorem wp_app_RopeKindS {ops : Array Oper} {rest : List Oper} {o : Oper} {a : Act} {Q : Exit → Act → World → Prop} (hgd : o.guard = none) (s x : Operand)
    (ho : o.op = .call { callee := .builtin .append, args := #[s, x], argTypes := #[95, 95] }) (w : World) (B : Nat) (v : Value) (rows : List (List Int))
    (hs : a.eval s = v) (hown : OwR w B 85 5 v rows) (A : Option Addr) (n c : Nat) (ys : List (List Int)) (hx : a.eval x = .slice A n c) (hr : RdR w 5 A n ys) (hl : rows.length + n < 1099511627776) (hB : B ≤ w.heap.size)
    (h : ∀ A' c' w', OwR w' B 85 5 (.slice A' (rows ++ ys).length c') (rows ++ ys) → Below B w w' → wpList Try.prog ops Q rest (a.put o.dst (.slice A' (rows ++ ys).length c')) w') :
    wpList Try.prog ops Q (o :: rest) a w := by
  obtain ⟨i0, hi0, hz0, hz1, hz2⟩ := info_parts info_RopeKind
  have e1 : rows.length + n = (rows ++ ys).length := by simp [hr.2.2]
  refine wpList_append_any _ hgd s x _ ho B 85 i0 _ 5 40 Try.underlying95 hi0 hz0 hz1 hz2 rfl (by omega) v rows.length (IV rows.flatten) hs hown.1 _ n c (IV ys.flatten) hx hr.1 (ints_oneCell _ _)
    (by simp only [maxLen]; omega) (by omega) hB ?_
  intro A' c' w' hown' hg
  have hn := RdR.cat_RopeKind (n := n) hown.2 hr.2.1 e1 hown'
  have hb := below_grown hown.1 hg (Nat.le_refl _) hB
  rw [e1]
  exact h A' c' w' hn hb
/-- The same at a step of a region that draws its order: also what has grown. -/
theorem step_app_RopeKindH {ops : Array Oper} {o : Oper} {a : Act} {K : Act → World → Prop} {Q : Exit → Act → World → Prop} {E : Prop} (hgd : o.guard = none) (s x : Operand)
    (ho : o.op = .call { callee := .builtin .append, args := #[s, x], argTypes := #[95, 95] }) (w : World) (B : Nat) (v : Value) (rows : List (List Int))
    (hs : a.eval s = v) (hown : OwR w B 85 5 v rows) (A : Option Addr) (n c : Nat) (ys us : List (List Int)) (m : Nat) (hus : rows ++ ys = us) (hum : us.length = m) (hx : a.eval x = .slice A n c) (hr : RdR w 5 A n ys) (hl : m < 1099511627776) (hB : B ≤ w.heap.size)
    (h : ∀ A' c' w', OwR w' B 85 5 (.slice A' m c') us → w.grownBy w' v.ownBlock → Below B w w' → K (a.put o.dst (.slice A' m c')) w') :
    if Region.wanted o (yielded ops a.tmps) = true then Oper.wp Try.prog o a w K Q else E := by
  subst hus hum
  obtain ⟨i0, hi0, hz0, hz1, hz2⟩ := info_parts info_RopeKind
  have e1 : rows.length + n = (rows ++ ys).length := by simp [hr.2.2]
  refine step_append_any w hgd s x _ ho B 85 i0 _ 5 40 Try.underlying95 hi0 hz0 hz1 hz2 rfl (by omega) v rows.length (IV rows.flatten) hs hown.1 _ n c (IV ys.flatten) hx hr.1 (ints_oneCell _ _)
    (by simp only [maxLen]; omega) (by omega) hB ?_
  intro A' c' w' hown' hg
  have hn := RdR.cat_RopeKind (n := n) hown.2 hr.2.1 e1 hown'
  have hb := below_grown hown.1 hg (Nat.le_refl _) hB
  rw [e1]
  exact h A' c' w' hn hg hb
theorem RdR.one_RopeKind (x0 x1 x2 x3 x4 : Int) (w : World) : RdR (w.alloc (.cells #[.int .i64 x0, .int .i64 x1, .int .i64 x2, .int .i64 x3, .int .i64 x4] 85)) 5 (some ⟨w.heap.size, 0, none⟩) 1 [[x0, x1, x2, x3, x4]] := by
  refine ⟨?_, by simp [Even], rfl⟩
  have := Rd.of_block (n := 1) (size := 5) (heap_alloc_new w (.cells #[.int .i64 x0, .int .i64 x1, .int .i64 x2, .int .i64 x3, .int .i64 x4] 85)) rfl
  simpa using this
/-- 'append(out, x)' of one that the walk has just laid in a block of its own. -/
theorem wp_app_RopeKind1 {ops : Array Oper} {rest : List Oper} {o : Oper} {a : Act} {Q : Exit → Act → World → Prop} (hgd : o.guard = none) (s x : Operand)
    (ho : o.op = .call { callee := .builtin .append, args := #[s, x], argTypes := #[95, 95] }) (w : World) (B : Nat) (v : Value) (rows : List (List Int)) (x0 x1 x2 x3 x4 : Int)
    (hs : a.eval s = v) (hown : OwR w B 85 5 v rows) (hx : a.eval x = .slice (some ⟨w.heap.size, 0, none⟩) 1 1) (m : Nat) (hm : rows.length = m) (hl : m < 1000000) (hB : B ≤ w.heap.size)
    (h : ∀ A' c' w', OwR w' B 85 5 (.slice A' (m + 1) c') (rows ++ [[x0, x1, x2, x3, x4]]) → Below B w w' → wpList Try.prog ops Q rest (a.put o.dst (.slice A' (m + 1) c')) w') :
    wpList Try.prog ops Q (o :: rest) a (w.alloc (.cells #[.int .i64 x0, .int .i64 x1, .int .i64 x2, .int .i64 x3, .int .i64 x4] 85)) := by
  subst hm
  refine wp_app_RopeKindS hgd s x ho _ B v rows hs ⟨hown.1.alloc _, hown.2⟩ _ 1 1 [[x0, x1, x2, x3, x4]] hx (RdR.one_RopeKind x0 x1 x2 x3 x4 w) (by omega) (Nat.le_trans hB (by simp)) ?_
  intro A' c' w' ho' hb
  have e : (rows ++ [[x0, x1, x2, x3, x4]]).length = rows.length + 1 := by simp
  rw [e] at ho' ⊢
  exact h A' c' w' ho' (((Below.refl B w).alloc hB _).trans hb)
/-- A list that was drawn. -/
def DrewRopeKinds (w : World) (g : Nat) (S : Src) (K m : Nat) (e : Ending) (w' : World) : Prop :=
  ∃ A c rows, e = .returned (.slice A rows.length c) ∧ rows.length ≤ m ∧ OwR w' w.heap.size 85 5 (.slice A rows.length c) rows ∧ Cur w' g S K ∧ w.grownBy w' (some g)
theorem DrewRopeKinds.mk {w w' : World} {g : Nat} {S : Src} {K m : Nat} {A : Option Addr} {n c : Nat} {rows : List (List Int)} (hn : n ≤ m) (ho : OwR w' w.heap.size 85 5 (.slice A n c) rows) (hC : Cur w' g S K) (hG : w.grownBy w' (some g)) : DrewRopeKinds w g S K m (.returned (.slice A n c)) w' := by
  obtain rfl := ho.len_
  exact ⟨A, c, rows, rfl, hn, ho, hC, hG⟩
theorem info_Damage : (Try.prog.info? 92).map (fun i => (i.zero, i.size, i.bytes)) = some (some (.agg #[.int .i64 0, .int .i64 0, .int .i64 0]), 3, 24) := by kernel_rfl
theorem RdR.cat_Damage {w : World} {B n m c : Nat} {A : Option Addr} {rows ys : List (List Int)} (he : Even 3 rows) (he' : Even 3 ys) (hn : rows.length + m = (rows ++ ys).length)
    (h : w.ownsRow B 92 3 (.slice A (rows.length + m) c) (rows.length + m) (IV rows.flatten ++ IV ys.flatten)) : OwR w B 92 3 (.slice A (rows ++ ys).length c) (rows ++ ys) := by
  refine ⟨?_, ?_⟩
  · unfold OwF
    rw [← hn, List.flatten_append]
    simpa using h
  · intro r hr
    rcases List.mem_append.1 hr with h1 | h1
    · exact he r h1
    · exact he' r h1
/-- 'append(out, l...)'. -/
theorem wp_app_DamageS {ops : Array Oper} {rest : List Oper} {o : Oper} {a : Act} {Q : Exit → Act → World → Prop} (hgd : o.guard = none) (s x : Operand)
    (ho : o.op = .call { callee := .builtin .append, args := #[s, x], argTypes := #[86, 86] }) (w : World) (B : Nat) (v : Value) (rows : List (List Int))
    (hs : a.eval s = v) (hown : OwR w B 92 3 v rows) (A : Option Addr) (n c : Nat) (ys : List (List Int)) (hx : a.eval x = .slice A n c) (hr : RdR w 3 A n ys) (hl : rows.length + n < 1099511627776) (hB : B ≤ w.heap.size)
    (h : ∀ A' c' w', OwR w' B 92 3 (.slice A' (rows ++ ys).length c') (rows ++ ys) → Below B w w' → wpList Try.prog ops Q rest (a.put o.dst (.slice A' (rows ++ ys).length c')) w') :
    wpList Try.prog ops Q (o :: rest) a w := by
  obtain ⟨i0, hi0, hz0, hz1, hz2⟩ := info_parts info_Damage
  have e1 : rows.length + n = (rows ++ ys).length := by simp [hr.2.2]
  refine wpList_append_any _ hgd s x _ ho B 92 i0 _ 3 24 Try.underlying86 hi0 hz0 hz1 hz2 rfl (by omega) v rows.length (IV rows.flatten) hs hown.1 _ n c (IV ys.flatten) hx hr.1 (ints_oneCell _ _)
    (by simp only [maxLen]; omega) (by omega) hB ?_
  intro A' c' w' hown' hg
  have hn := RdR.cat_Damage (n := n) hown.2 hr.2.1 e1 hown'
  have hb := below_grown hown.1 hg (Nat.le_refl _) hB
  rw [e1]
  exact h A' c' w' hn hb
/-- The same at a step of a region that draws its order: also what has grown. -/
theorem step_app_DamageH {ops : Array Oper} {o : Oper} {a : Act} {K : Act → World → Prop} {Q : Exit → Act → World → Prop} {E : Prop} (hgd : o.guard = none) (s x : Operand)
    (ho : o.op = .call { callee := .builtin .append, args := #[s, x], argTypes := #[86, 86] }) (w : World) (B : Nat) (v : Value) (rows : List (List Int))
    (hs : a.eval s = v) (hown : OwR w B 92 3 v rows) (A : Option Addr) (n c : Nat) (ys us : List (List Int)) (m : Nat) (hus : rows ++ ys = us) (hum : us.length = m) (hx : a.eval x = .slice A n c) (hr : RdR w 3 A n ys) (hl : m < 1099511627776) (hB : B ≤ w.heap.size)
    (h : ∀ A' c' w', OwR w' B 92 3 (.slice A' m c') us → w.grownBy w' v.ownBlock → Below B w w' → K (a.put o.dst (.slice A' m c')) w') :
    if Region.wanted o (yielded ops a.tmps) = true then Oper.wp Try.prog o a w K Q else E := by
  subst hus hum
  obtain ⟨i0, hi0, hz0, hz1, hz2⟩ := info_parts info_Damage
  have e1 : rows.length + n = (rows ++ ys).length := by simp [hr.2.2]
  refine step_append_any w hgd s x _ ho B 92 i0 _ 3 24 Try.underlying86 hi0 hz0 hz1 hz2 rfl (by omega) v rows.length (IV rows.flatten) hs hown.1 _ n c (IV ys.flatten) hx hr.1 (ints_oneCell _ _)
    (by simp only [maxLen]; omega) (by omega) hB ?_
  intro A' c' w' hown' hg
  have hn := RdR.cat_Damage (n := n) hown.2 hr.2.1 e1 hown'
  have hb := below_grown hown.1 hg (Nat.le_refl _) hB
  rw [e1]
  exact h A' c' w' hn hg hb
theorem RdR.one_Damage (x0 x1 x2 : Int) (w : World) : RdR (w.alloc (.cells #[.int .i64 x0, .int .i64 x1, .int .i64 x2] 92)) 3 (some ⟨w.heap.size, 0, none⟩) 1 [[x0, x1, x2]] := by
  refine ⟨?_, by simp [Even], rfl⟩
  have := Rd.of_block (n := 1) (size := 3) (heap_alloc_new w (.cells #[.int .i64 x0, .int .i64 x1, .int .i64 x2] 92)) rfl
  simpa using this
/-- 'append(out, x)' of one that the walk has just laid in a block of its own. -/
theorem wp_app_Damage1 {ops : Array Oper} {rest : List Oper} {o : Oper} {a : Act} {Q : Exit → Act → World → Prop} (hgd : o.guard = none) (s x : Operand)
    (ho : o.op = .call { callee := .builtin .append, args := #[s, x], argTypes := #[86, 86] }) (w : World) (B : Nat) (v : Value) (rows : List (List Int)) (x0 x1 x2 : Int)
    (hs : a.eval s = v) (hown : OwR w B 92 3 v rows) (hx : a.eval x = .slice (some ⟨w.heap.size, 0, none⟩) 1 1) (m : Nat) (hm : rows.length = m) (hl : m < 1000000) (hB : B ≤ w.heap.size)
    (h : ∀ A' c' w', OwR w' B 92 3 (.slice A' (m + 1) c') (rows ++ [[x0, x1, x2]]) → Below B w w' → wpList Try.prog ops Q rest (a.put o.dst (.slice A' (m + 1) c')) w') :
    wpList Try.prog ops Q (o :: rest) a (w.alloc (.cells #[.int .i64 x0, .int .i64 x1, .int .i64 x2] 92)) := by
  subst hm
  refine wp_app_DamageS hgd s x ho _ B v rows hs ⟨hown.1.alloc _, hown.2⟩ _ 1 1 [[x0, x1, x2]] hx (RdR.one_Damage x0 x1 x2 w) (by omega) (Nat.le_trans hB (by simp)) ?_
  intro A' c' w' ho' hb
  have e : (rows ++ [[x0, x1, x2]]).length = rows.length + 1 := by simp
  rw [e] at ho' ⊢
  exact h A' c' w' ho' (((Below.refl B w).alloc hB _).trans hb)
/-- A list that was drawn. -/
def DrewDamages (w : World) (g : Nat) (S : Src) (K m : Nat) (e : Ending) (w' : World) : Prop :=
  ∃ A c rows, e = .returned (.slice A rows.length c) ∧ rows.length ≤ m ∧ OwR w' w.heap.size 92 3 (.slice A rows.length c) rows ∧ Cur w' g S K ∧ w.grownBy w' (some g)
theorem DrewDamages.mk {w w' : World} {g : Nat} {S : Src} {K m : Nat} {A : Option Addr} {n c : Nat} {rows : List (List Int)} (hn : n ≤ m) (ho : OwR w' w.heap.size 92 3 (.slice A n c) rows) (hC : Cur w' g S K) (hG : w.grownBy w' (some g)) : DrewDamages w g S K m (.returned (.slice A n c)) w' := by
  obtain rfl := ho.len_
  exact ⟨A, c, rows, rfl, hn, ho, hC, hG⟩
end Go.Proofs.Ytjfmicemnoglkaa
