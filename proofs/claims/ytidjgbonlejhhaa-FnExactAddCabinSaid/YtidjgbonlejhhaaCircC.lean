/- The circle: the laws' own functions on circles. -/
import Derived.Test.YtidjgbonlejhhaaCircB
namespace Go.Proofs.Ytidjgbonlejhhaa
open Go.RowKit
set_option linter.unusedVariables false
set_option linter.unusedSimpArgs false

theorem Ow.set_ {w : World} {B : Nat} {v : Value} {zs : List Int} (h : Ow w B v zs) {p : Addr} (hp : p.block < B) (u : Value) : Ow (w.setCell p u) B v zs :=
  h.other (row := some p.block) (only_setCell (g := p.block) (World.grownBy.refl _ _) (.inl rfl) u) (fun k hk => by injection hk with hk; omega)
/-- What a function returns that hands back a circle. -/
def RetC (w : World) (l s : Int) (zs : List Int) (e : Ending) (w' : World) : Prop := ∃ A c, e = .returned (.agg #[.int .i64 l, .int .i64 s, .slice A zs.length c]) ∧ Ow w' w.heap.size (.slice A zs.length c) zs ∧ Below w.heap.size w w'
def RetCB (w : World) (l s : Int) (zs : List Int) (b : Bool) (e : Ending) (w' : World) : Prop := ∃ A c, e = .returned (.tuple #[.agg #[.int .i64 l, .int .i64 s, .slice A zs.length c], .bool b]) ∧ Ow w' w.heap.size (.slice A zs.length c) zs ∧ Below w.heap.size w w'
/-- A box of the call's own. -/
def OwB (w : World) (B g : Nat) (t : TypeId) (cs : Array Value) : Prop := B ≤ g ∧ Blk w g t cs
section
variable {w w' : World} {B g : Nat} {t : TypeId} {cs : Array Value}
theorem OwB.new (w : World) (t : TypeId) (cs : Array Value) : OwB (w.alloc (.cells cs t)) w.heap.size w.heap.size t cs := ⟨Nat.le_refl _, Blk.new w t cs⟩
theorem OwB.below (h : OwB w B g t cs) (hb : Below w.heap.size w w') : OwB w' B g t cs := ⟨h.1, h.2.below hb h.2.lt⟩
theorem OwB.block_lt (h : OwB w B g t cs) : ∀ k, some g = some k → k < w.heap.size := fun k hk => by injection hk with hk; have := h.2.lt; omega
theorem OwB.other {row : Option Nat} (h : OwB w B g t cs) (hg : w.grownBy w' row) (hne : ∀ k, row = some k → k < B) : OwB w' B g t cs :=
  ⟨h.1, h.2.grown hg (fun e => by have := hne g e.symm; have := h.1; omega)⟩
theorem OwB.other2 {B2 : Nat} {row : Option Nat} (h : OwB w B g t cs) (hg : w.grownBy w' row) (hlt : ∀ k, some g = some k → k < B2) (hge : ∀ k, row = some k → B2 ≤ k) : OwB w' B g t cs :=
  ⟨h.1, h.2.grown hg (fun e => by have := hlt g rfl; have := hge g e.symm; omega)⟩
theorem OwB.cells3 {a b c : Value} (h : OwB w B g t #[a, b, c]) : w.cell? ⟨g, 0, none⟩ = some a ∧ w.cell? ⟨g, 1, none⟩ = some b ∧ w.cell? ⟨g, 2, none⟩ = some c := ⟨h.2.cell 0, h.2.cell 1, h.2.cell 2⟩
end
set_option maxHeartbeats 1000000 in
theorem laws_toCircle (l s : Int) (A : Option Addr) (n c : Nat) (zs : List Int) (w : World) (h : Rd w 1 A n (IV zs)) (hn : n ≤ 1048576) :
    Calls Try.prog 16 #[.agg #[.int .i64 l, .int .i64 s, .slice A n c]] w (RetC w l s zs) := by
  have hl := Lib.hid h.len
  have CT := Lib.hid (fun w' (hb : Below w.heap.size w w') => laws_toIntS_ret A n c zs w' (h.below hb) hn)
  clear h
  go_enter Try.func16, Try.ntmps16
  go_wp2_with (go_at_call 50; refine (CT.out _ (by repeat (first | exact Below.refl _ _ | assumption | apply Below.drew | apply below_drewN | (refine Below.alloc ?_ (by first | omega | (simp; done) | (simp; omega)) _) | (refine Below.setCell ?_ (by first | omega | (simp; done) | (simp; omega)) _)))).mono ?_; rintro e w1 ⟨A1, c1, rfl, ho1, hb⟩; have hB : Below w.heap.size w w1 := Below.thenn (by repeat (first | exact Below.refl _ _ | assumption | apply Below.drew | apply below_drewN | (refine Below.alloc ?_ (by first | omega | (simp; done) | (simp; omega)) _) | (refine Below.setCell ?_ (by first | omega | (simp; done) | (simp; omega)) _))) hb (by first | omega | (simp; done) | (simp; omega)); have hz : w.heap.size + 3 ≤ w1.heap.size := (by have h := hb.size; (try simp at h); omega); (have ho1 : Ow w1 (w.heap.size + 3) (.slice A1 zs.length c1) zs := ho1.base (by simp)); obtain ⟨hc, hf⟩ := bcell hb; clear hb)
  go_light
  refine bodyPost_ret (v := .agg #[.int .i64 l, .int .i64 s, .slice A1 zs.length c1]) ?_ rfl ⟨A1, c1, rfl, Ow.base (B := w.heap.size + 3) (by repeat (first | exact ho1 | refine Ow.set_ ?_ (by first | omega | (simp; done) | (simp; omega)) _)) (by omega), (by repeat (first | exact Below.refl _ _ | assumption | apply Below.drew | apply below_drewN | (refine Below.alloc ?_ (by first | omega | (simp; done) | (simp; omega)) _) | (refine Below.setCell ?_ (by first | omega | (simp; done) | (simp; omega)) _)))⟩
  simp [results, Try.results16, go_sem, *]
theorem laws_eqCircle (l s : Int) (A A' : Option Addr) (n n' c c' : Nat) (zs : List Int) (w : World) (h : Rd w 1 A n (IV zs)) (h' : Rd w 1 A' n' (IV zs)) (hm : n ≤ 9223372036854775807) :
    Calls Try.prog 18 #[.agg #[.int .i64 l, .int .i64 s, .slice A n c], .agg #[.int .i64 l, .int .i64 s, .slice A' n' c']] w (Ret w (.bool true)) := by
  have hnn : n' = n := h'.len.symm.trans h.len
  have CE := Lib.hid (fun w' (hb : Below w.heap.size w w') => laws_eqIntS A A' n n' c c' zs zs w' (h.below hb) (h'.below hb) hm (by omega))
  clear h h' hnn
  rw [show decide (zs = zs) = true by simp] at CE
  go_enter Try.func18, Try.ntmps18
  go_wp2_with (go_at_call 29; refine (CE.out _ (by repeat (first | exact Below.refl _ _ | assumption | apply Below.drew | apply below_drewN | (refine Below.alloc ?_ (by first | omega | (simp; done) | (simp; omega)) _) | (refine Below.setCell ?_ (by first | omega | (simp; done) | (simp; omega)) _)))).mono ?_; rintro e w' ⟨rfl, nq, rfl⟩)
  go_ret
  exact ⟨rfl, (by repeat (first | exact Below.refl _ _ | assumption | apply Below.drew | apply below_drewN | (refine Below.alloc ?_ (by first | omega | (simp; done) | (simp; omega)) _) | (refine Below.setCell ?_ (by first | omega | (simp; done) | (simp; omega)) _)))⟩
theorem laws_markCircle (l s : Int) (A : Option Addr) (n c B : Nat) (xs : List Int) (k0 : Int) (w : World) (h : Ow w B (.slice A n c) xs) (h0 : 0 ≤ k0) (h1 : k0 ≤ 1000000000) (hm : n ≤ 1000000000) :
    Calls Try.prog 21 #[.agg #[.int .i64 l, .int .i64 s, .slice A n c], .int .i64 k0] w fun e w' => e = .returned (.int .i64 (k0 + n)) ∧ Ow w' B (.slice A n c) (iota k0 n) ∧ w.grownBy w' (Value.slice A n c).ownBlock := by
  have CM := Lib.hid (fun o => laws_markIntS A n c B xs k0 (w.alloc o) (h.alloc o) h0 h1 hm)
  have HG := Lib.hid (fun o => only_alloc (World.grownBy.refl w (Value.slice A n c).ownBlock) o)
  clear h
  go_enter Try.func21, Try.ntmps21
  go_wp2_with (go_at_call 30; refine (CM.out _).mono ?_; rintro e w1 ⟨rfl, ho, hg⟩; have HO := Lib.hid ho; have HG1 := Lib.hid (only_trans (HG.out _) hg); clear ho hg)
  go_ret
  exact ⟨rfl, HO.out, HG1.out⟩
theorem laws_heldCircle (l s : Int) (A : Option Addr) (n c : Nat) (k0 : Int) (w : World) (h : Rd w 1 A n (IV (iota k0 n))) (h0 : 0 ≤ k0) (h1 : k0 ≤ 1000000000) (hm : n ≤ 1000000000) :
    Calls Try.prog 22 #[.agg #[.int .i64 l, .int .i64 s, .slice A n c], .int .i64 k0] w (Ret w (.int .i64 (k0 + n))) := by
  have CM := Lib.hid (fun o => laws_heldIntS A n c k0 (w.alloc o) (h.alloc o) h0 h1 hm)
  have hk : ¬ (k0 + (n : Int) < 0) := by omega
  clear h
  go_enter Try.func22, Try.ntmps22
  go_wp2_with (go_at_call 31; refine (CM.out _).mono ?_; rintro e w' ⟨rfl, rfl⟩)
  go_ret
  exact ⟨rfl, (by repeat (first | exact Below.refl _ _ | assumption | apply Below.drew | apply below_drewN | (refine Below.alloc ?_ (by first | omega | (simp; done) | (simp; omega)) _) | (refine Below.setCell ?_ (by first | omega | (simp; done) | (simp; omega)) _)))⟩
theorem laws_szIntS (A : Option Addr) (n c : Nat) (z : Int) (w : World) (h0 : (n : Int) ≤ z) (h1 : z ≤ 1048576) : Calls Try.prog 48 #[.slice A n c, .int .i64 z] w fun e w' => e = .returned (.int .i64 (z - (n : Int))) ∧ w = w' := by
  have h2 : ¬ (z - (n : Int) < 0) := by omega
  go_enter Try.func48, Try.ntmps48
  go_wp2
  all_goals (go_ret; exact ⟨rfl, rfl⟩)
theorem laws_szIntS_big (A : Option Addr) (n c : Nat) (z : Int) (w : World) (h0 : z < (n : Int)) (h1 : 0 ≤ z) (h3 : z ≤ 1048576) (hm : n ≤ 9223372036854775807) : Calls Try.prog 48 #[.slice A n c, .int .i64 z] w fun e w' => e = .returned (.int .i64 (-1)) ∧ w = w' := by
  have h2 : z - (n : Int) < 0 := by omega
  go_enter Try.func48, Try.ntmps48
  go_wp2
  all_goals (go_ret; exact ⟨rfl, rfl⟩)
theorem laws_szCircle (l s : Int) (A : Option Addr) (n c : Nat) (z : Int) (w : World) (h0 : (n : Int) ≤ z) (h1 : z ≤ 1048576) : Calls Try.prog 14 #[.agg #[.int .i64 l, .int .i64 s, .slice A n c], .int .i64 z] w (Ret w (.int .i64 (z - (n : Int)))) := by
  have h2 : ¬ (z - (n : Int) < 0) := by omega
  go_enter Try.func14, Try.ntmps14
  go_wp2_with (go_at_call 48; refine (laws_szIntS _ _ _ _ _ h0 h1).mono ?_; rintro e w' ⟨rfl, rfl⟩)
  all_goals (go_ret; exact ⟨rfl, (by repeat (first | exact Below.refl _ _ | assumption | apply Below.drew | apply below_drewN | (refine Below.alloc ?_ (by first | omega | (simp; done) | (simp; omega)) _) | (refine Below.setCell ?_ (by first | omega | (simp; done) | (simp; omega)) _)))⟩)
theorem laws_szCircle_big (l s : Int) (A : Option Addr) (n c : Nat) (z : Int) (w : World) (h0 : z < (n : Int)) (h1 : 0 ≤ z) (h3 : z ≤ 1048576) (hm : n ≤ 9223372036854775807) : Calls Try.prog 14 #[.agg #[.int .i64 l, .int .i64 s, .slice A n c], .int .i64 z] w (Ret w (.int .i64 (-1))) := by
  go_enter Try.func14, Try.ntmps14
  go_wp2_with (go_at_call 48; refine (laws_szIntS_big _ _ _ _ _ h0 h1 h3 hm).mono ?_; rintro e w' ⟨rfl, rfl⟩)
  all_goals (go_ret; exact ⟨rfl, (by repeat (first | exact Below.refl _ _ | assumption | apply Below.drew | apply below_drewN | (refine Below.alloc ?_ (by first | omega | (simp; done) | (simp; omega)) _) | (refine Below.setCell ?_ (by first | omega | (simp; done) | (simp; omega)) _)))⟩)
end Go.Proofs.Ytidjgbonlejhhaa
