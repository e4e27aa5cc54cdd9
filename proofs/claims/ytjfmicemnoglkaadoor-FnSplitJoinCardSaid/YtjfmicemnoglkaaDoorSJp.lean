/- Joining texts: plain words, and the reference's look for a byte. -/
import Derived.Test.YtjfmicemnoglkaaDoorSOf
import Derived.Lib.Join
import Derived.Lib.Bytealg
namespace Go.Proofs.YtjfmicemnoglkaaDoor
open Go.RowKit
set_option linter.unusedVariables false
set_option linter.unusedSimpArgs false

/-- Whether a byte stands in a text. -/
def hasB (s : ByteArray) (x : UInt8) : Bool := decide (x ∈ s.data.toList)
theorem get_list {s : ByteArray} {k : Nat} (h : k < s.size) : s.data.toList[k]? = some s[k] := by
  have h1 : k < s.data.toList.length := by simpa using h
  rw [List.getElem?_eq_getElem h1]
  rfl
theorem index_iff (l : List UInt8) (c : UInt8) : 0 ≤ Lib.indexByte l c ↔ c ∈ l := by
  induction l with
  | nil => simp [Lib.indexByte]
  | cons a l ih =>
    simp only [Lib.indexByte, List.mem_cons]
    by_cases h : a = c
    · subst h
      simp
    · have h1 : (a == c) = false := by simpa using h
      have h3 : ¬ c = a := fun e => h e.symm
      simp only [h1]
      have hge := Lib.indexByte_ge l c
      by_cases h2 : Lib.indexByte l c = -1
      · have h4 : ¬ c ∈ l := fun hm => by have := ih.2 hm; omega
        simp [h2, h3, h4]
      · have h4 : c ∈ l := ih.1 (by omega)
        have h5 : (Lib.indexByte l c == -1) = false := by simpa using h2
        simp only [h5]
        simp [h4]
        omega
theorem index_has (l : List UInt8) (c : UInt8) : decide (0 ≤ Lib.indexByte l c) = decide (c ∈ l) := by
  rw [Bool.eq_iff_iff]
  simpa using index_iff l c
/-- The texts with a byte between them. -/
def jl (c : UInt8) (xs : List ByteArray) : List UInt8 := Lib.join (xs.map (·.data.toList)) [c]
theorem inter_snoc (sep : List UInt8) : ∀ (ls : List (List UInt8)) (l : List UInt8), ls ≠ [] → sep.intercalate (ls ++ [l]) = sep.intercalate ls ++ (sep ++ l)
  | [], l, h => absurd rfl h
  | [a], l, _ => by simp [List.intercalate, List.intersperse]
  | a :: b :: r, l, _ => by
    have ih := inter_snoc sep (b :: r) l (by simp)
    simp only [List.intercalate, List.cons_append, List.intersperse_cons_cons, List.flatten_cons] at ih ⊢
    rw [ih]
    simp [List.append_assoc]
theorem jl_nil (c : UInt8) : jl c [] = [] := rfl
theorem jl_one (c : UInt8) (x : ByteArray) : jl c [x] = x.data.toList := by simp [jl, Lib.join, List.intercalate]
theorem jl_snoc (c : UInt8) (xs : List ByteArray) (x : ByteArray) (h : xs ≠ []) : jl c (xs ++ [x]) = jl c xs ++ (c :: x.data.toList) := by
  unfold jl Lib.join
  rw [List.map_append, List.map_cons, List.map_nil, inter_snoc _ _ _ (by simpa using h)]
  rfl
/-- The bytes of the first k texts. -/
def szs (xs : List ByteArray) : Nat := (xs.map (·.size)).sum
theorem szs_snoc (xs : List ByteArray) (x : ByteArray) : szs (xs ++ [x]) = szs xs + x.size := by simp [szs]
theorem jl_len (c : UInt8) (xs : List ByteArray) : (jl c xs).length = szs xs + (xs.length - 1) := by
  cases xs with
  | nil => rfl
  | cons x r =>
    have hj : ∀ r : List ByteArray, (Lib.joinTail [c] (r.map (·.data.toList))).length = szs r + r.length := by
      intro r
      induction r with
      | nil => rfl
      | cons y r ih =>
        simp only [Lib.joinTail, szs, List.map_cons, List.flatten_cons, List.length_append, List.sum_cons, List.length_cons, List.length_singleton] at ih ⊢
        rw [ih]
        simp
        omega
    unfold jl
    rw [List.map_cons, Lib.join_cons, List.length_append, hj]
    simp [szs]
    omega
theorem take_snoc {xs : List ByteArray} {k : Nat} {x : ByteArray} (h : xs[k]? = some x) : xs.take (k + 1) = xs.take k ++ [x] := by
  rw [List.take_add_one, h]
  rfl
theorem szs_take_le (xs : List ByteArray) (k : Nat) : szs (xs.take k) ≤ szs xs := by
  have := List.take_append_drop k xs
  have h : szs xs = szs (xs.take k) + szs (xs.drop k) := by
    conv => lhs; rw [← this]
    simp [szs, -List.take_append_drop]
  omega
/-- What the joining answers, at a separator of one byte. -/
def jsOk (c : UInt8) (xs : List ByteArray) : Bool := decide (xs ≠ []) && (xs.all (fun x => !hasB x c) && decide (szs xs + (xs.length - 1) ≤ 4000))
def jsT (c : UInt8) (xs : List ByteArray) : ByteArray := if jsOk c xs then ⟨(jl c xs).toArray⟩ else ⟨#[]⟩
theorem js_has {c : UInt8} {xs : List ByteArray} {k : Nat} {x : ByteArray} (h : xs[k]? = some x) (hx : hasB x c = true) : jsOk c xs = false := by
  have hm := List.mem_of_getElem? h
  have : (xs.all fun x => !hasB x c) = false := by
    rw [List.all_eq_false]
    exact ⟨x, hm, by simp [hx]⟩
  simp [jsOk, this]
theorem js_long {c : UInt8} {xs : List ByteArray} {k : Nat} (hk : k ≤ xs.length) (h : 4000 < szs (xs.take k) + (k - 1)) : jsOk c xs = false := by
  have := szs_take_le xs k
  have : decide (szs xs + (xs.length - 1) ≤ 4000) = false := decide_eq_false (by omega)
  simp [jsOk, this]
theorem js_ok {c : UInt8} {xs : List ByteArray} (h0 : xs ≠ []) (h1 : ∀ (j : Nat) (x : ByteArray), xs[j]? = some x → hasB x c = false) (h2 : szs xs + (xs.length - 1) ≤ 4000) : jsOk c xs = true := by
  have : (xs.all fun x => !hasB x c) = true := by
    rw [List.all_eq_true]
    intro x hx
    obtain ⟨j, hj⟩ := List.getElem?_of_mem hx
    simp [h1 j x hj]
  simp [jsOk, this, h0, h2]
set_option maxHeartbeats 1000000 in
theorem spec_l1Stands (s : ByteArray) (x : UInt8) (w : World) (hs : s.size ≤ 5000) :
    Calls Tryd.prog 20 #[.string s, .int .u8 (x.toNat : Int)] w fun e w' => e = .returned (.bool (hasB s x)) ∧ w = w' := by
  go_enter Tryd.func20, Tryd.ntmps20
  go_wp2_with fail
  go_loopg [5] s.size (fun gg i wr => ∃ k : Nat, k ≤ s.size ∧ s.size ≤ k + gg ∧ i = .int .i64 k ∧ Hid (x ∉ s.data.toList.take k) ∧ w = wr)
  case atStart => exact ⟨0, by omega, by omega, rfl, Lib.hid (by simp), rfl⟩
  case round =>
    obtain ⟨k, hk1, hk2, rfl, HK, rfl⟩ := hrel
    rcases Nat.lt_or_ge k s.size with hlt | hge
    · have hg := get_list hlt
      generalize hy : s[k] = y at *
      have HY := Lib.hid hg
      clear hg
      by_cases hxy : y = x
      · subst hxy
        have hh : hasB s y = true := decide_eq_true (List.mem_of_getElem? HY.out)
        go_wp2_with fail
        go_ret
        exact ⟨ret_bool hh.symm, rfl⟩
      · have hne : ((y.toNat : Int) == (x.toNat : Int)) = false := by
          simp only [beq_eq_false_iff_ne, ne_eq]
          intro e
          exact hxy (UInt8.toNat_inj.1 (by omega))
        go_wp2_with fail
        go_roundg (s.size - (k + 1))
        case measure => omega
        case rel => exact ⟨k + 1, by omega, by omega, by go_num, Lib.hid (by
          rw [List.take_add_one, HY.out]
          simp only [Option.toList, List.mem_append, List.mem_singleton, not_or]
          exact ⟨HK.out, fun e => hxy e.symm⟩), rfl⟩
    · have hh : hasB s x = false := by
        refine decide_eq_false ?_
        have := HK.out
        rwa [List.take_of_length_le (by simp; omega)] at this
      go_wp2_with fail
      go_ret
      exact ⟨ret_bool hh.symm, rfl⟩
end Go.Proofs.YtjfmicemnoglkaaDoor
