/- What the law on texts draws. -/
import Derived.Test.YtjfmicemnoglkaaDoorSOf
import Derived.Laws.IdiomStrings
namespace Go.Proofs.YtjfmicemnoglkaaDoor
open Go.RowKit
set_option linter.unusedVariables false
set_option linter.unusedSimpArgs false

/-- A list of strings of the call's own. -/
def OwS (w : World) (B : Nat) (v : Value) (xs : List ByteArray) : Prop := w.ownsRow B 9 1 v xs.length (xs.map Value.string)
theorem OwS.rd {w : World} {B m c : Nat} {A : Option Addr} {xs : List ByteArray} (h : OwS w B (.slice A m c) xs) : RdS w A xs.length xs := by
  obtain ⟨A', c', e', _⟩ := own_shape h
  injection e' with e1 e2 e3
  subst e1 e2 e3
  exact Rd.of_own h
theorem OwS.len_ {w : World} {B n c : Nat} {A : Option Addr} {xs : List ByteArray} (h : OwS w B (.slice A n c) xs) : xs.length = n ∧ n ≤ c := by
  obtain ⟨A', c', e, h1, _⟩ := own_shape h
  injection e with e1 e2 e3
  subst e1 e2 e3
  exact ⟨rfl, h1⟩
theorem OwS.gen {w w' : World} {B : Nat} {v : Value} {xs : List ByteArray} {g : Nat} (h : OwS w B v xs) (hg : w.grownBy w' (some g)) (hB : g < B) : OwS w' B v xs := by
  refine own_grown h hg ?_
  rcases hv : v.ownBlock with _ | k
  · exact .inl rfl
  · right
    intro e
    have h1 := (World.ownsRow.lt h k hv).1
    injection e with e
    omega
theorem OwS.below {w w' : World} {B : Nat} {v : Value} {xs : List ByteArray} (h : OwS w B v xs) (hb : Below w.heap.size w w') : OwS w' B v xs := own_below h hb
theorem OwS.base {w : World} {B B' : Nat} {v : Value} {xs : List ByteArray} (h : OwS w B v xs) (hb : B' ≤ B) : OwS w B' v xs := own_base h hb
theorem OwS.lit0 (w : World) (B q : Nat) (hB : B ≤ w.heap.size) (hq : q = w.heap.size) : OwS (w.alloc (.cells #[] 9)) B (.slice (some ⟨q, 0, none⟩) 0 0) [] := by
  subst hq
  have := own_lit w 9 #[] 1 0 B (by simp) (by simp [maxLen]) hB
  simpa [OwS] using this
theorem info_str : (Tryd.prog.info? 9).map (fun i => (i.zero, i.size, i.bytes)) = some (some (.string ByteArray.empty), 1, 16) := by kernel_rfl
/-- 'append(out, x)' of one that the walk has just laid in a block of its own. -/
theorem wp_app_str1 {ops : Array Oper} {rest : List Oper} {o : Oper} {a : Act} {Q : Exit → Act → World → Prop} (hgd : o.guard = none) (s x : Operand)
    (ho : o.op = .call { callee := .builtin .append, args := #[s, x], argTypes := #[26, 26] }) (w : World) (B : Nat) (v : Value) (xs : List ByteArray) (z : ByteArray)
    (hs : a.eval s = v) (hown : OwS w B v xs) (hx : a.eval x = .slice (some ⟨w.heap.size, 0, none⟩) 1 1) (m : Nat) (hm : xs.length = m) (hl : m < 1000000) (hB : B ≤ w.heap.size)
    (h : ∀ A' c' w', OwS w' B (.slice A' (m + 1) c') (xs ++ [z]) → Below B w w' → wpList Tryd.prog ops Q rest (a.put o.dst (.slice A' (m + 1) c')) w') :
    wpList Tryd.prog ops Q (o :: rest) a (w.alloc (.cells #[.string z] 9)) := by
  subst hm
  obtain ⟨i0, hi0, hz0, hz1, hz2⟩ := info_parts info_str
  have hrd : Rd (w.alloc (.cells #[.string z] 9)) 1 (some ⟨w.heap.size, 0, none⟩) 1 [.string z] := by
    have := Rd.of_block (n := 1) (size := 1) (heap_alloc_new w (.cells #[.string z] 9)) rfl
    simpa using this
  refine wpList_append_any _ hgd s x _ ho B 9 i0 (.string ByteArray.empty) 1 16 Tryd.underlying26 hi0 hz0 hz1 hz2 rfl (by omega) v xs.length (xs.map Value.string) hs (World.ownsRow.alloc hown _) _ 1 1 [.string z] hx hrd (by simp [Value.oneCell'])
    (by simp only [maxLen]; omega) (by omega) (by simp; omega) ?_
  intro A' c' w' hown' hg
  refine h A' c' w' ?_ ?_
  · simpa [OwS] using hown'
  · exact ((Below.refl B w).alloc hB _).trans (below_grown (World.ownsRow.alloc hown _) hg (Nat.le_refl _) (by simp; omega))
def seps : List ByteArray := [⟨#[44]⟩, ⟨#[44]⟩, ⟨#[32]⟩, ⟨#[]⟩, ⟨#[44, 44]⟩]
def marks : List ByteArray := [⟨#[44]⟩, ⟨#[59]⟩, ⟨#[59]⟩, ⟨#[]⟩, ⟨#[97, 98]⟩]
def GenSS (w : World) (e : Ending) (w' : World) : Prop := ∃ s t, s ∈ anys ∧ t ∈ seps ∧ e = .returned (.tuple #[.string s, .string t]) ∧ Below w.heap.size w w'
def GenLS (w : World) (e : Ending) (w' : World) : Prop := ∃ s t, s ∈ anys ∧ t ∈ anys ∧ e = .returned (.tuple #[.string s, .string t]) ∧ Below w.heap.size w w'
def GenJS (w : World) (e : Ending) (w' : World) : Prop := ∃ A n c xs t, (∀ x ∈ xs, x.size ≤ 4010) ∧ t ∈ marks ∧ e = .returned (.tuple #[.slice A n c, .string t]) ∧ n ≤ 4 ∧ OwS w' w.heap.size (.slice A n c) xs ∧ Below w.heap.size w w'
set_option maxHeartbeats 1000000 in
theorem draw_SplitString (w : World) (S : Src) (h : S.ok w) : Calls Tryd.prog 5 #[.slice S.A S.n S.c] w (GenSS w) := by
  have H := Lib.hid (Cur.new h)
  clear h
  go_enter Tryd.func5, Tryd.ntmps5
  go_wp2_with fail
  refine (cur_any1 _ _ S 0 H.out (by omega)).mono ?_
  rintro e w1 ⟨s, hs, rfl, hC, hG⟩
  have HS := Lib.hid hs
  have C1 := Lib.hid (hC.alloc (.cells (seps.map Value.string).toArray 9))
  have G1 := Lib.hid hG
  have hz := hG.size
  simp at hz
  have R1 := Lib.hid (RdS.lit w1 9 seps)
  clear hC hG hs
  go_wp2_with fail
  refine (cur_of _ _ S _ seps _ _ _ C1.out (by omega) R1.out (by intro b off e; injection e with e; injection e with e; omega) (by decide) (by decide) rfl).mono ?_
  rintro e w2 ⟨t, ht, rfl, hC, hG⟩
  have HT := Lib.hid ht
  have G2 := Lib.hid (only_trans G1.out (only_trans (only_alloc (World.grownBy.refl w1 _) _) hG))
  clear hC hG ht
  go_wp2_with fail
  go_ret2
  exact ⟨s, t, HS.out, HT.out, rfl, below_gen G2.out⟩
set_option maxHeartbeats 1000000 in
theorem draw_LessString (w : World) (S : Src) (h : S.ok w) : Calls Tryd.prog 10 #[.slice S.A S.n S.c] w (GenLS w) := by
  have H := Lib.hid (Cur.new h)
  clear h
  go_enter Tryd.func10, Tryd.ntmps10
  go_wp2_with fail
  refine (cur_any1 _ _ S 0 H.out (by omega)).mono ?_
  rintro e w1 ⟨s, hs, rfl, hC, hG⟩
  have HS := Lib.hid hs
  have C1 := Lib.hid hC
  have G1 := Lib.hid hG
  clear hC hG hs
  go_wp2_with fail
  refine (cur_any1 _ _ S _ C1.out (by omega)).mono ?_
  rintro e w2 ⟨t, ht, rfl, hC, hG⟩
  have HT := Lib.hid ht
  have G2 := Lib.hid (only_trans G1.out hG)
  clear hC hG ht
  go_wp2_with fail
  go_ret2
  exact ⟨s, t, HS.out, HT.out, rfl, below_gen G2.out⟩
end Go.Proofs.YtjfmicemnoglkaaDoor
