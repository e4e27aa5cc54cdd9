/- Joining texts: the reference's walk. -/
import Derived.Test.YtjfmicemnoglkaaDoorSJp
import Derived.Test.YtjfmicemnoglkaaDoorExt
namespace Go.Proofs.YtjfmicemnoglkaaDoor
open Go.RowKit
set_option linter.unusedVariables false
set_option linter.unusedSimpArgs false

theorem o_size {o : ByteArray} {l : List UInt8} (h : o.data.toList = l) : o.size = l.length := by rw [← h]; simp
theorem js_pos {x : UInt8} {xs : List ByteArray} {k : Nat} {o y : ByteArray} (hk : 0 < k) (HO : o.data.toList = jl x (xs.take k)) (hy : xs[k]? = some y) :
    (o ++ ⟨#[x]⟩ ++ y).data.toList = jl x (xs.take (k + 1)) ∧ szs (xs.take (k + 1)) + (k + 1 - 1) = o.size + 1 + y.size := by
  have hlt := (List.getElem?_eq_some_iff.1 hy).1
  have h1 := o_size HO
  rw [jl_len] at h1
  have h2 : (xs.take k).length = k := by simp; omega
  rw [take_snoc hy]
  refine ⟨?_, by rw [szs_snoc]; omega⟩
  rw [jl_snoc _ _ _ (by intro e; rw [e] at h2; simp at h2; omega), ← HO]
  simp
theorem js_zero {x : UInt8} {xs : List ByteArray} {k : Nat} {o y : ByteArray} (hk : k = 0) (HO : o.data.toList = jl x (xs.take k)) (hy : xs[k]? = some y) :
    (o ++ y).data.toList = jl x (xs.take (k + 1)) ∧ szs (xs.take (k + 1)) + (k + 1 - 1) = o.size + y.size := by
  subst hk
  have h1 := o_size HO
  rw [jl_len] at h1
  rw [take_snoc hy]
  simp only [List.take_zero, List.nil_append, jl_one] at *
  refine ⟨?_, ?_⟩
  · rw [jl_nil] at HO
    simp [HO]
  · simp [szs] at h1 ⊢
    omega
theorem js_end {x : UInt8} {xs : List ByteArray} {o : ByteArray} (h0 : xs ≠ []) (HO : o.data.toList = jl x xs) (HH : ∀ (j : Nat) (y : ByteArray), j < xs.length → xs[j]? = some y → hasB y x = false) (HZ : szs xs + (xs.length - 1) ≤ 4000) : jsOk x xs = true ∧ jsT x xs = o := by
  have hk := js_ok h0 (c := x) (fun j y hj => HH j y (List.getElem?_eq_some_iff.1 hj).1 hj) HZ
  refine ⟨hk, ?_⟩
  unfold jsT
  rw [if_pos hk, ← HO]
set_option maxHeartbeats 2000000 in
theorem spec_Join_one (A : Option Addr) (n c : Nat) (xs : List ByteArray) (x : UInt8) (w : World) (hR : RdS w A n xs) (hn : n ≤ 100) (hs : ∀ y ∈ xs, y.size ≤ 5000) :
    Calls Tryd.prog 9 #[.slice A n c, .string ⟨#[x]⟩] w (Ret w (.tuple #[.string (jsT x xs), .bool (jsOk x xs)])) := by
  have hl := hR.len
  rcases Nat.eq_zero_or_pos n with h0 | h0
  · subst h0
    have hx : xs = [] := List.length_eq_zero_iff.1 hl
    have hk : jsOk x xs = false := by simp [jsOk, hx]
    have ht : jsT x xs = ⟨#[]⟩ := by simp [jsT, hk]
    rw [hk, ht]
    clear hR hk ht hs
    go_enter Tryd.func9, Tryd.ntmps9
    go_wp2_with fail
    go_ret2
    exact ⟨rfl, Below.refl _ _⟩
  · have h0b : ((n : Int) == 0) = false := by simp; omega
    have HR := Lib.hid hR
    have HS := Lib.hid hs
    have hxn : xs ≠ [] := fun e => by subst e; simp at hl; omega
    have HXN := Lib.hid hxn
    have HJ := Lib.hid (fun (k : Nat) (y : ByteArray) (h : xs[k]? = some y) (hy : hasB y x = true) => js_has (c := x) h hy)
    obtain ⟨b, off, s0, rfl, _, hc0⟩ := hR.at_ h0
    have hbl : b < w.heap.size := World.block_lt_of_cell? w _ hc0
    clear hR hs hxn hc0
    go_enter Tryd.func9, Tryd.ntmps9
    go_wp2_with fail
    go_loopg [6, 7] n (fun gg out i wr => ∃ (k : Nat) (o : ByteArray), k ≤ n ∧ n ≤ k + gg ∧ i = .int .i64 k ∧ out = .string o ∧ Hid (o.data.toList = jl x (xs.take k)) ∧ Hid (∀ (j : Nat) (y : ByteArray), j < k → xs[j]? = some y → hasB y x = false) ∧ Hid (szs (xs.take k) + (k - 1) ≤ 4000) ∧ o.size ≤ 4000 ∧ Below w.heap.size w wr)
    case atStart => exact ⟨0, _, by omega, by omega, rfl, rfl, Lib.hid rfl, Lib.hid (fun j y h => absurd h (by omega)), Lib.hid (by simp [szs]), by decide, Below.refl _ _⟩
    case round =>
      obtain ⟨k, o, hk1, hk2, rfl, rfl, HO, HH, HZ, hoz, hBr⟩ := hrel
      have hzr := hBr.size
      rcases Nat.lt_or_ge k n with hlt | hge
      · have R2 := Lib.hid (HR.out.below hBr)
        obtain ⟨b', off', y, e', hy, hcy⟩ := R2.out.at_ hlt
        injection e' with e'
        injection e' with e1 e2
        subst e1 e2
        have hys := HS.out y (List.mem_of_getElem? hy)
        have HY := Lib.hid hy
        have HHY := Lib.hid (HJ.out k y hy)
        have hbr : b < wr.heap.size := by omega
        clear hy
        generalize hh : hasB y x = hv at *
        have HHV := Lib.hid hh
        have cst := fun w' => spec_l1Stands y x w' hys
        rw [hh] at cst
        have CST := Lib.hid cst
        clear cst hh
        go_wp2_with fail
        (refine wp_region_ext (by kernel_rfl) (by kernel_rfl) ?_; have hxe := ext_cells; (repeat (go_big_quiet_step ((go_at_call 20; exact ext_pure (CST.out _))))); refine wpQuiet_nil ?_; intro w' hw'; obtain ⟨nx, hw''⟩ := hw'; have hbx := ext_out hw''; clear hw'' nx hxe; have hB : Below w.heap.size w w' := Below.thenn (by repeat (first | exact Below.refl _ _ | assumption | apply Below.drew | apply below_drewN | (refine Below.alloc ?_ (by first | omega | (simp; done) | (simp; omega)) _) | (refine Below.setCell ?_ (by first | omega | (simp; done) | (simp; omega)) _))) hbx (by first | omega | (simp; done) | (simp; omega)); have hz : w.heap.size ≤ w'.heap.size := hB.size; obtain ⟨hc, hf⟩ := bcell hbx; have hcy2 := (hbx.cell (p := ⟨b, off + k, none⟩) hbr).trans hcy; have hz2 := hbx.size; clear hbx)
        clear hc hf hcy
        rcases hv with _ | _
        · rcases Nat.eq_zero_or_pos k with hk0 | hk0
          · have hkp : decide ((0 : Int) < (k : Int)) = false := decide_eq_false (by omega)
            have hkq : decide (0 < k) = false := decide_eq_false (by omega)
            have HK0 := Lib.hid hk0
            clear hk0
            obtain ⟨e1, e2⟩ := js_zero HK0.out HO.out HY.out
            have E1 := Lib.hid e1
            have E2 := Lib.hid e2
            clear e1 e2
            by_cases hT : o.size + y.size ≤ 4000
            · have hdec : decide ((4000 : Int) < (o.size : Int) + (y.size : Int)) = false := decide_eq_false (by omega)
              have hS2 : (o ++ y).size = o.size + y.size := by
                have s1 : (⟨#[x]⟩ : ByteArray).size = 1 := rfl
                simp [s1]
              have HS2 := Lib.hid hS2
              have HT := Lib.hid hT
              clear hS2 hT
              go_wp2_with fail
              go_roundg (n - (k + 1))
              case measure => omega
              case rel => exact ⟨k + 1, _, by omega, by omega, by go_num, rfl, E1, Lib.hid (fun j z hj hz => by
                rcases Nat.lt_or_ge j k with h1 | h1
                · exact HH.out j z h1 hz
                · obtain rfl : j = k := by omega
                  have := HY.out.symm.trans hz
                  injection this with this
                  subst this
                  exact HHV.out), Lib.hid (by rw [E2.out]; exact HT.out), by rw [HS2.out]; exact HT.out, hB⟩
            · have hdec : decide ((4000 : Int) < (o.size : Int) + (y.size : Int)) = true := decide_eq_true (by omega)
              have hk : jsOk x xs = false := js_long (k := k + 1) (by omega) (by rw [E2.out]; omega)
              have ht : jsT x xs = ⟨#[]⟩ := by simp [jsT, hk]
              clear hT
              go_wp2_with fail
              go_light
              refine bodyPost_ret (v := .tuple #[.string ⟨#[]⟩, .bool false]) ?_ rfl ⟨by first | rfl | rw [hk, ht], hB⟩
              simp [results, Tryd.results9, go_sem]
          · have hkp : decide ((0 : Int) < (k : Int)) = true := decide_eq_true (by omega)
            have hkq : decide (0 < k) = true := decide_eq_true (by omega)
            have HK0 := Lib.hid hk0
            obtain ⟨e1, e2⟩ := js_pos HK0.out HO.out HY.out
            have E1 := Lib.hid e1
            have E2 := Lib.hid e2
            clear e1 e2
            by_cases hT : o.size + 1 + y.size ≤ 4000
            · have hdec : decide ((4000 : Int) < (o.size : Int) + 1 + (y.size : Int)) = false := decide_eq_false (by omega)
              have hS2 : (o ++ ⟨#[x]⟩ ++ y).size = o.size + 1 + y.size := by
                have s1 : (⟨#[x]⟩ : ByteArray).size = 1 := rfl
                simp [s1]
              have HS2 := Lib.hid hS2
              have HT := Lib.hid hT
              clear hS2 hT
              go_wp2_with fail
              go_roundg (n - (k + 1))
              case measure => omega
              case rel => exact ⟨k + 1, _, by omega, by omega, by go_num, rfl, E1, Lib.hid (fun j z hj hz => by
                rcases Nat.lt_or_ge j k with h1 | h1
                · exact HH.out j z h1 hz
                · obtain rfl : j = k := by omega
                  have := HY.out.symm.trans hz
                  injection this with this
                  subst this
                  exact HHV.out), Lib.hid (by rw [E2.out]; exact HT.out), by rw [HS2.out]; exact HT.out, hB⟩
            · have hdec : decide ((4000 : Int) < (o.size : Int) + 1 + (y.size : Int)) = true := decide_eq_true (by omega)
              have hk : jsOk x xs = false := js_long (k := k + 1) (by omega) (by rw [E2.out]; omega)
              have ht : jsT x xs = ⟨#[]⟩ := by simp [jsT, hk]
              clear hT
              go_wp2_with fail
              go_light
              refine bodyPost_ret (v := .tuple #[.string ⟨#[]⟩, .bool false]) ?_ rfl ⟨by first | rfl | rw [hk, ht], hB⟩
              simp [results, Tryd.results9, go_sem]
        · have hk : jsOk x xs = false := HHY.out rfl
          have ht : jsT x xs = ⟨#[]⟩ := by simp [jsT, hk]
          go_wp2_with fail
          go_light
          refine bodyPost_ret (v := .tuple #[.string ⟨#[]⟩, .bool false]) ?_ rfl ⟨by first | rfl | rw [hk, ht], hB⟩
          simp [results, Tryd.results9, go_sem]
      · obtain rfl : k = n := by omega
        have hte : xs.take k = xs := List.take_of_length_le (by omega)
        have ho := HO.out
        have hz := HZ.out
        rw [hte] at ho hz
        obtain ⟨e1, e2⟩ := js_end HXN.out ho (fun j y hj => HH.out j y (by omega)) (by rw [hl]; exact hz)
        clear ho hz hte
        have EE := Lib.hid (And.intro e1 e2)
        clear e1 e2
        go_wp2_with fail
        go_light
        refine bodyPost_ret (v := .tuple #[.string o, .bool true]) ?_ rfl ⟨by rw [EE.out.1, EE.out.2], hBr⟩
        simp [results, Tryd.results9, go_sem]
end Go.Proofs.YtjfmicemnoglkaaDoor
