/- Splitting a text; joining at a separator that is not one byte. -/
import Derived.Test.YtjfmicemnoglkaaDoorSJi
import Derived.Test.YtjfmicemnoglkaaDoorSDrw
namespace Go.Proofs.YtjfmicemnoglkaaDoor
open Go.RowKit
set_option linter.unusedVariables false
set_option linter.unusedSimpArgs false

theorem impl_Join_not (A : Option Addr) (n c : Nat) (sep : ByteArray) (w : World) (hs : sep.size ≠ 1) (hz : sep.size ≤ 100) (hn : n ≤ 100) :
    Calls Tryd.prog 8 #[.slice A n c, .string sep] w (Ret w (.tuple #[.string ⟨#[]⟩, .bool false])) := by
  have h1 : ((sep.size : Int) != 1) = true := by simp; omega
  rcases Nat.eq_zero_or_pos n with h0 | h0
  · subst h0
    go_enter Tryd.func8, Tryd.ntmps8
    go_wp2_with fail
    go_ret2
    exact ⟨rfl, Below.refl _ _⟩
  · have h0b : ((n : Int) == 0) = false := by simp; omega
    go_enter Tryd.func8, Tryd.ntmps8
    go_wp2_with fail
    go_ret2
    exact ⟨rfl, Below.refl _ _⟩
theorem spec_Join_not (A : Option Addr) (n c : Nat) (sep : ByteArray) (w : World) (hs : sep.size ≠ 1) (hz : sep.size ≤ 100) (hn : n ≤ 100) :
    Calls Tryd.prog 9 #[.slice A n c, .string sep] w (Ret w (.tuple #[.string ⟨#[]⟩, .bool false])) := by
  have h1 : ((sep.size : Int) != 1) = true := by simp; omega
  go_enter Tryd.func9, Tryd.ntmps9
  go_wp2_with fail
  go_ret2
  exact ⟨rfl, Below.refl _ _⟩
theorem impl_Split_not (s sep : ByteArray) (w : World) (hs : sep.size ≠ 1) (hz : sep.size ≤ 100) (h4 : s.size ≤ 4000) :
    Calls Tryd.prog 6 #[.string s, .string sep] w (Ret w (.tuple #[.slice none 0 0, .bool false])) := by
  have h1 : ((sep.size : Int) != 1) = true := by simp; omega
  have h2 : decide ((4000 : Int) < (s.size : Int)) = false := decide_eq_false (by omega)
  go_enter Tryd.func6, Tryd.ntmps6
  go_wp2_with fail
  go_ret2
  exact ⟨rfl, Below.refl _ _⟩
theorem impl_Split_one (s : ByteArray) (x : UInt8) (m : Int) (w : World) (h4 : s.size ≤ 4000) (hm : w.cell? ⟨0, 0, none⟩ = some (.int .i64 m)) :
    Calls Tryd.prog 6 #[.string s, .string ⟨#[x]⟩] w (fun e w' => ∃ A n, e = .returned (.tuple #[.slice A n n, .bool true]) ∧ RdS w' A n (Lib.splitB ⟨#[x]⟩ 0 (Lib.countB s ⟨#[x]⟩) s) ∧ Below w.heap.size w w') := by
  have h2 : decide ((4000 : Int) < (s.size : Int)) = false := decide_eq_false (by omega)
  have CS := Lib.hid (Tryd.strings_Split s ⟨#[x]⟩ m w (by omega) hm (show 1 ≤ (⟨#[x]⟩ : ByteArray).size from Nat.le_refl 1))
  have hlen := Lib.splitB_all ⟨#[x]⟩ (show 1 ≤ (⟨#[x]⟩ : ByteArray).size from Nat.le_refl 1) 0 _ s rfl
  have R := Lib.hid (RdS.lit w 9 (Lib.splitB ⟨#[x]⟩ 0 (Lib.countB s ⟨#[x]⟩) s))
  have B := Lib.hid ((Below.refl w.heap.size w).alloc (Nat.le_refl _) (.cells ((Lib.splitB ⟨#[x]⟩ 0 (Lib.countB s ⟨#[x]⟩) s).map Value.string).toArray 9))
  rw [hlen] at R
  clear hlen hm
  generalize Lib.splitB ⟨#[x]⟩ 0 (Lib.countB s ⟨#[x]⟩) s = ps at *
  generalize Lib.countB s ⟨#[x]⟩ + 1 = n at *
  go_enter Tryd.func6, Tryd.ntmps6
  go_wp2_with (go_at_call 15; refine CS.out.mono ?_; rintro e w2 ⟨rfl, rfl⟩)
  go_light
  refine bodyPost_ret (v := .tuple #[.slice (some ⟨w.heap.size, 0, none⟩) n n, .bool true]) ?_ rfl ⟨_, _, rfl, R.out, B.out⟩
  simp [results, Tryd.results6, go_sem]
theorem seps_size : ∀ t ∈ seps, t.size ≤ 100 := by decide
theorem marks_size : ∀ t ∈ marks, t.size ≤ 100 := by decide
theorem anys_4000 : ∀ x ∈ anys, x.size ≤ 4000 := by decide
theorem split_good : ∀ s ∈ anys, ∀ t ∈ seps, t.size = 1 → jsOk (t.data.toList.headD 0) (Lib.splitB t 0 (Lib.countB s t) s) = true ∧ jsT (t.data.toList.headD 0) (Lib.splitB t 0 (Lib.countB s t) s) = s ∧ (Lib.splitB t 0 (Lib.countB s t) s).length ≤ 100 ∧ ∀ y ∈ Lib.splitB t 0 (Lib.countB s t) s, y.size ≤ 5000 := by decide +kernel
theorem one_byte {t : ByteArray} (h : t.size = 1) : t = ⟨#[t.data.toList.headD 0]⟩ := by
  obtain ⟨⟨l⟩⟩ := t
  have h : l.length = 1 := by simpa [ByteArray.size] using h
  match l, h with
  | [a], _ => rfl
theorem less_anti : ∀ (l m : List UInt8), Op.bytesLess l m = true → Op.bytesLess m l = false
  | [], [], h => by simp [Op.bytesLess] at h
  | [], b :: m, _ => by simp [Op.bytesLess]
  | a :: l, [], h => by simp [Op.bytesLess] at h
  | a :: l, b :: m, h => by
    have ih := less_anti l m
    simp only [Op.bytesLess] at h ⊢
    simp only [Bool.or_eq_true, Bool.and_eq_true, decide_eq_true_eq, beq_iff_eq] at h
    rcases h with h | ⟨rfl, h⟩
    · have h1 : ¬ b < a := fun h2 => by
        have := UInt8.lt_iff_toNat_lt.1 h
        have := UInt8.lt_iff_toNat_lt.1 h2
        omega
      have h2 : ¬ b = a := fun e => by
        subst e
        have := UInt8.lt_iff_toNat_lt.1 h
        omega
      simp [h1, h2]
    · have h1 : ¬ a < a := fun h2 => by
        have := UInt8.lt_iff_toNat_lt.1 h2
        omega
      simp [h1, ih h]
theorem impl_Less (a b : ByteArray) (w : World) : Calls Tryd.prog 11 #[.string a, .string b] w (fun e w' => e = .returned (.bool (Op.bytesLess a.toList b.toList)) ∧ w = w') := by
  go_enter Tryd.func11, Tryd.ntmps11
  go_wp2_with fail
  go_ret
  exact ⟨rfl, rfl⟩
theorem spec_Less (a b : ByteArray) (w : World) : Calls Tryd.prog 12 #[.string a, .string b] w (fun e w' => e = .returned (.bool (Op.bytesLess a.toList b.toList)) ∧ w = w') := by
  go_enter Tryd.func12, Tryd.ntmps12
  go_wp2_with fail
  go_ret
  exact ⟨rfl, rfl⟩
end Go.Proofs.YtjfmicemnoglkaaDoor
