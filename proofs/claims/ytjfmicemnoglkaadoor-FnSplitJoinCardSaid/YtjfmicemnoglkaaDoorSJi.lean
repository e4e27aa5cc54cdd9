/- Joining texts: the program's walk. -/
import Derived.Test.YtjfmicemnoglkaaDoorSJp
import Derived.Test.YtjfmicemnoglkaaDoorShelf
namespace Go.Proofs.YtjfmicemnoglkaaDoor
open Go.RowKit
set_option linter.unusedVariables false
set_option linter.unusedSimpArgs false

theorem szs_take_snoc {xs : List ByteArray} {k : Nat} {y : ByteArray} (hy : xs[k]? = some y) : szs (xs.take (k + 1)) = szs (xs.take k) + y.size := by
  rw [take_snoc hy, szs_snoc]
theorem szs_le {xs : List ByteArray} (h : ∀ y ∈ xs, y.size ≤ 5000) : szs xs ≤ 5000 * xs.length := by
  induction xs with
  | nil => simp [szs]
  | cons x r ih =>
    have h1 := ih (fun y hy => h y (List.mem_cons_of_mem _ hy))
    have h2 := h x (List.mem_cons_self ..)
    simp [szs] at h1 ⊢
    omega
theorem contains_one (y : ByteArray) (x : UInt8) (w : World) : Calls Tryd.prog 18 #[.string y, .string ⟨#[x]⟩] w fun e w' => e = .returned (.bool (hasB y x)) ∧ w = w' := by
  refine (Tryd.strings_Contains_one y x w).mono ?_
  rintro e w' ⟨he, hw⟩
  exact ⟨by rw [he, index_has]; rfl, hw.symm⟩
set_option maxHeartbeats 2000000 in
theorem impl_Join_one (A : Option Addr) (n c : Nat) (xs : List ByteArray) (x : UInt8) (w : World) (hR : RdS w A n xs) (hn : n ≤ 100) (hc : n ≤ c) (hs : ∀ y ∈ xs, y.size ≤ 5000) :
    Calls Tryd.prog 8 #[.slice A n c, .string ⟨#[x]⟩] w (Ret w (.tuple #[.string (jsT x xs), .bool (jsOk x xs)])) := by
  have hl := hR.len
  rcases Nat.eq_zero_or_pos n with h0 | h0
  · subst h0
    have hx : xs = [] := List.length_eq_zero_iff.1 hl
    have hk : jsOk x xs = false := by simp [jsOk, hx]
    have ht : jsT x xs = ⟨#[]⟩ := by simp [jsT, hk]
    rw [hk, ht]
    clear hR hk ht hs
    go_enter Tryd.func8, Tryd.ntmps8
    go_wp2_with fail
    go_ret2
    exact ⟨rfl, Below.refl _ _⟩
  · have h0b : ((n : Int) == 0) = false := by simp; omega
    have HR := Lib.hid hR
    have HS := Lib.hid hs
    have hxn : xs ≠ [] := fun e => by subst e; simp at hl; omega
    have HXN := Lib.hid hxn
    have HJ := Lib.hid (fun (k : Nat) (y : ByteArray) (h : xs[k]? = some y) (hy : hasB y x = true) => js_has (c := x) h hy)
    obtain ⟨b, off, s0, rfl, _, hc0⟩ := hR.at_ h0
    have hbl : b < w.heap.size := World.block_lt_of_cell? w _ hc0
    have u0 : IntKind.i64.wrap ((n : Int) - 1) = (n : Int) - 1 := IntWalk.i64_in _ (by omega)
    have hcells : ∀ (j : Nat) z, xs[j]? = some z → w.cell? ⟨b, off + j, none⟩ = some (.string z) := by
      intro j z hz
      have hj := (List.getElem?_eq_some_iff.1 hz).1
      obtain ⟨b', off', y, e', hy, hcy⟩ := hR.at_ (k := j) (by omega)
      injection e' with e'
      injection e' with e1 e2
      subst e1 e2
      rw [hz] at hy
      injection hy with hy
      rw [hy]; exact hcy
    have hjn : ∀ (h : szs xs + (xs.length - 1) ≤ 4000), Calls Tryd.prog 19 #[.slice (some ⟨b, off, none⟩) n c, .string ⟨#[x]⟩] w (fun e w' => e = .returned (.string ⟨(jl x xs).toArray⟩) ∧ Below w.heap.size w w') := by
      intro h
      have := Tryd.strings_Join b off c xs ⟨#[x]⟩ w hcells hbl (by omega) (by omega) (by
        have := jl_len x xs
        unfold jl at this
        show (Lib.join (xs.map (·.data.toList)) [x]).length ≤ _
        omega)
      rw [hl] at this
      exact this
    have HJN := Lib.hid hjn
    have hsz := szs_le hs
    have hszt := fun k => szs_take_le xs k
    have HST := Lib.hid hszt
    clear hR hs hxn hc0 hcells hjn hszt
    go_enter Tryd.func8, Tryd.ntmps8
    go_wp2_with fail
    go_loopg [6, 22] n (fun gg sz i wr => ∃ (k : Nat), k ≤ n ∧ n ≤ k + gg ∧ i = .int .i64 k ∧ sz = .int .i64 ((n : Int) - 1 + (szs (xs.take k) : Int)) ∧ Hid (∀ (j : Nat) (y : ByteArray), j < k → xs[j]? = some y → hasB y x = false) ∧ w = wr)
    case atStart => exact ⟨0, by omega, by omega, rfl, by simp [szs], Lib.hid (fun j y h => absurd h (by omega)), rfl⟩
    case round =>
      obtain ⟨k, hk1, hk2, rfl, rfl, HH, rfl⟩ := hrel
      have hbd := HST.out k
      rcases Nat.lt_or_ge k n with hlt | hge
      · obtain ⟨b', off', y, e', hy, hcy⟩ := HR.out.at_ hlt
        injection e' with e'
        injection e' with e1 e2
        subst e1 e2
        have hys := HS.out y (List.mem_of_getElem? hy)
        have hst := szs_take_snoc hy
        have hbd2 := HST.out (k + 1)
        have HY := Lib.hid hy
        have HHY := Lib.hid (HJ.out k y hy)
        have u1 : IntKind.i64.wrap ((n : Int) - 1 + (szs (xs.take k) : Int) + (y.size : Int)) = (n : Int) - 1 + (szs (xs.take (k + 1)) : Int) := (IntWalk.i64_in _ (by omega)).trans (by omega)
        have HSTK := Lib.hid hst
        clear hy hst
        generalize hh : hasB y x = hv at *
        have HHV := Lib.hid hh
        have cst := fun w' => contains_one y x w'
        rw [hh] at cst
        have CST := Lib.hid cst
        clear cst hh
        rcases hv with _ | _
        · go_wp2_with (go_at_call 18; refine (CST.out _).mono ?_; rintro e w' ⟨rfl, rfl⟩)
          go_roundg (n - (k + 1))
          case measure => omega
          case rel => exact ⟨k + 1, by omega, by omega, by go_num, by go_num, Lib.hid (fun j z hj hz => by
            rcases Nat.lt_or_ge j k with h1 | h1
            · exact HH.out j z h1 hz
            · obtain rfl : j = k := by omega
              have := HY.out.symm.trans hz
              injection this with this
              subst this
              exact HHV.out), rfl⟩
        · have hk : jsOk x xs = false := HHY.out rfl
          have ht : jsT x xs = ⟨#[]⟩ := by simp [jsT, hk]
          go_wp2_with (go_at_call 18; refine (CST.out _).mono ?_; rintro e w' ⟨rfl, rfl⟩)
          go_light
          refine bodyPost_ret (v := .tuple #[.string ⟨#[]⟩, .bool false]) ?_ rfl ⟨by first | rfl | rw [hk, ht], Below.refl _ _⟩
          simp [results, Tryd.results8, go_sem]
      · obtain rfl : k = n := by omega
        have hte : xs.take k = xs := List.take_of_length_le (by omega)
        rw [hte]
        clear hbd
        by_cases hT : szs xs + (xs.length - 1) ≤ 4000
        · have hk := js_ok HXN.out (c := x) (fun j y hj => HH.out j y (by have := (List.getElem?_eq_some_iff.1 hj).1; omega) hj) hT
          have ht : jsT x xs = ⟨(jl x xs).toArray⟩ := by simp [jsT, hk]
          have CJ := Lib.hid (HJN.out hT)
          have hdec : decide ((4000 : Int) < (k : Int) - 1 + (szs xs : Int)) = false := decide_eq_false (by omega)
          clear hT hte
          go_wp2_with (go_at_call 19; refine CJ.out.mono ?_; rintro e w2 ⟨rfl, hb⟩; have HB2 := Lib.hid hb; clear hb)
          go_light
          refine bodyPost_ret (v := .tuple #[.string ⟨(jl x xs).toArray⟩, .bool true]) ?_ rfl ⟨by first | rfl | rw [hk, ht], HB2.out⟩
          simp [results, Tryd.results8, go_sem]
        · have hk : jsOk x xs = false := by simp [jsOk, hT]
          have ht : jsT x xs = ⟨#[]⟩ := by simp [jsT, hk]
          have hdec : decide ((4000 : Int) < (k : Int) - 1 + (szs xs : Int)) = true := decide_eq_true (by omega)
          clear hT hte
          go_wp2_with fail
          go_light
          refine bodyPost_ret (v := .tuple #[.string ⟨#[]⟩, .bool false]) ?_ rfl ⟨by first | rfl | rw [hk, ht], Below.refl _ _⟩
          simp [results, Tryd.results8, go_sem]
end Go.Proofs.YtjfmicemnoglkaaDoor
