/- A slice of numbers of the call's own that may still be the empty one that was made before other memory. -/
import Derived.Test.YtjfmicemnoglkaaBase
import Derived.ArgAppend
namespace Go.Proofs.Ytjfmicemnoglkaa
open Go.RowKit
set_option linter.unusedVariables false
set_option linter.unusedSimpArgs false

def OwZ (w : World) (B : Nat) (v : Value) (zs : List Int) : Prop := (∃ ao, v = .slice ao 0 0 ∧ zs = []) ∨ Ow w B v zs
theorem OwZ.below {w w' : World} {B : Nat} {v : Value} {zs : List Int} (h : OwZ w B v zs) (hb : Below w.heap.size w w') : OwZ w' B v zs := h.imp id (fun h => h.below hb)
theorem OwZ.len {w : World} {B : Nat} {A : Option Addr} {n c : Nat} {zs : List Int} (h : OwZ w B (.slice A n c) zs) : zs.length = n := by
  rcases h with ⟨ao, e, rfl⟩ | h
  · injection e with _ e _; exact e.symm
  · exact h.len
theorem wp_app_intZ {ops : Array Oper} {rest : List Oper} {o : Oper} {a : Act} {Q : Exit → Act → World → Prop} (hgd : o.guard = none) (s x : Operand)
    (ho : o.op = .call { callee := .builtin .append, args := #[s, x], argTypes := #[44, 44] }) (w : World) (B : Nat) (v : Value) (zs : List Int) (z : Int)
    (hs : a.eval s = v) (hown : OwZ w B v zs) (hx : a.eval x = .slice (some ⟨w.heap.size, 0, none⟩) 1 1) (hl : zs.length < 1099511627776) (hB : B ≤ w.heap.size)
    (h : ∀ A c w', Ow w' B (.slice A (zs ++ [z]).length c) (zs ++ [z]) → Below B w w' → wpList Try.prog ops Q rest (a.put o.dst (.slice A (zs ++ [z]).length c)) w') :
    wpList Try.prog ops Q (o :: rest) a (w.alloc (.cells #[.int .i64 z] 3)) := by
  rcases hown with ⟨ao, rfl, rfl⟩ | hown
  · obtain ⟨i0, hi0, hz0, hz1, hz2⟩ := info_parts info_int
    have hc : (w.alloc (.cells #[.int .i64 z] 3)).cell? ⟨w.heap.size, 0, none⟩ = some (.int .i64 z) := (Blk.new w 3 #[.int .i64 z]).cell 0
    refine wpList_append_grows (w.alloc (.cells #[.int .i64 z] 3)) hgd s x _ ho 3 i0 (.int .i64 0) 1 8 Try.underlying44 hi0 hz0 hz1 hz2 rfl (by omega) ao 0 0 [] hs (fun _ => ⟨rfl, rfl⟩) rfl (fun b _ j u hu => by simp at hu)
      ⟨w.heap.size, 0, none⟩ 1 1 [.int .i64 z] hx rfl (fun j u hu => ?_) (by simp [Value.oneCell']) (by omega) (by simp [maxLen]) (by omega) ?_
    · rcases j with _ | j
      · simp at hu
        subst hu
        rw [Addr.add_lit]
        exact hc
      · simp at hu
    · intro v' w' hown' hg
      obtain ⟨A', c', rfl, _⟩ := own_shape hown'
      refine h A' c' w' ?_ ?_
      · have h2 := own_base (base' := B) hown' (by simp; omega)
        simpa [Ow] using h2
      · have h3 : Below B (w.alloc (.cells #[.int .i64 z] 3)) w' := (Below.refl B _).grown hg (by simp; omega) (fun k hk => by cases hk)
        exact ((Below.refl B w).alloc hB _).trans h3
  · exact wp_app_int hgd s x ho w B v zs z hs hown hx hl hB h
end Go.Proofs.Ytjfmicemnoglkaa
