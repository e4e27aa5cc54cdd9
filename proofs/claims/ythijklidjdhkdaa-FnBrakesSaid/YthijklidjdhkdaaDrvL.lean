/- A box of the call's own; the laws' own functions on drives. -/
import Derived.Test.YthijklidjdhkdaaFlBrakeB
import Derived.Test.YthijklidjdhkdaaFlBrakeC
import Derived.Test.YthijklidjdhkdaaExt
namespace Go.Proofs.Ythijklidjdhkdaa
open Go.RowKit
set_option linter.unusedVariables false
set_option linter.unusedSimpArgs false

/-- A box of the call's own. -/
def OwB (w : World) (B g : Nat) (t : TypeId) (cs : Array Value) : Prop := B ≤ g ∧ Blk w g t cs
section
variable {w w' : World} {B g : Nat} {t : TypeId} {cs : Array Value}
theorem OwB.new (w : World) (t : TypeId) (cs : Array Value) : OwB (w.alloc (.cells cs t)) w.heap.size w.heap.size t cs := ⟨Nat.le_refl _, Blk.new w t cs⟩
theorem OwB.below (h : OwB w B g t cs) (hb : Below w.heap.size w w') : OwB w' B g t cs := ⟨h.1, h.2.below hb h.2.lt⟩
theorem OwB.block_lt (h : OwB w B g t cs) : ∀ k, some g = some k → k < w.heap.size := fun k hk => by injection hk with hk; have := h.2.lt; omega
theorem OwB.other {row : Option Nat} (h : OwB w B g t cs) (hg : w.grownBy w' row) (hne : ∀ k, row = some k → k < B) : OwB w' B g t cs :=
  ⟨h.1, h.2.grown hg (fun e => by have := hne g e.symm; have := h.1; omega)⟩
theorem OwB.other2 {B2 : Nat} {row : Option Nat} (h : OwB w B g t cs) (hg : w.grownBy w' row) (hlt : ∀ k, some g = some k → k < B2) (hge : ∀ k, row = some k → B2 ≤ k) : OwB w' B g t cs :=
  ⟨h.1, h.2.grown hg (fun e => by have := hlt g rfl; have := hge g e.symm; omega)⟩
theorem OwB.cells3 {a b c : Value} (h : OwB w B g t #[a, b, c]) : w.cell? ⟨g, 0, none⟩ = some a ∧ w.cell? ⟨g, 1, none⟩ = some b ∧ w.cell? ⟨g, 2, none⟩ = some c := ⟨h.2.cell 0, h.2.cell 1, h.2.cell 2⟩
end
theorem OwR.set_ {w : World} {B : Nat} {e : TypeId} {F : Nat} {v : Value} {rows : List (List Int)} (h : OwR w B e F v rows) {p : Addr} (hp : p.block < B) (u : Value) : OwR (w.setCell p u) B e F v rows :=
  h.other (row := some p.block) (only_setCell (g := p.block) (World.grownBy.refl _ _) (.inl rfl) u) (fun k hk => by injection hk with hk; omega)
theorem OwR.base {w : World} {B B' : Nat} {e : TypeId} {F : Nat} {v : Value} {rows : List (List Int)} (h : OwR w B e F v rows) (hb : B' ≤ B) : OwR w B' e F v rows := ⟨h.1.base hb, h.2⟩
theorem OwR.alloc {w : World} {B : Nat} {e : TypeId} {F : Nat} {v : Value} {rows : List (List Int)} (h : OwR w B e F v rows) (o : Obj) : OwR (w.alloc o) B e F v rows := ⟨h.1.alloc o, h.2⟩
/-- What a function returns that hands back a drive. -/
def RetD (w : World) (m p : Int) (rows : List (List Int)) (e : Ending) (w' : World) : Prop := ∃ A c, e = .returned (.agg #[.int .i64 m, .int .i64 p, .slice A rows.length c]) ∧ OwR w' w.heap.size 56 2 (.slice A rows.length c) rows ∧ Below w.heap.size w w'
set_option maxHeartbeats 1000000 in
theorem laws_toDrive (m p : Int) (A : Option Addr) (n c : Nat) (rows : List (List Int)) (w : World) (h : RdR w 2 A n rows) (hn : n ≤ 1048576) :
    Calls Try.prog 16 #[.agg #[.int .i64 m, .int .i64 p, .slice A n c]] w (RetD w m p rows) := by
  have CT := Lib.hid (fun w' (hb : Below w.heap.size w w') => laws_toBrakeS A n c rows w' (h.below hb) hn)
  clear h
  go_enter Try.func16, Try.ntmps16
  go_wp2_with (go_at_call 50; refine (CT.out _ (by repeat (first | exact Below.refl _ _ | assumption | apply Below.drew | apply below_drewN | (refine Below.alloc ?_ (by first | omega | (simp; done) | (simp; omega)) _) | (refine Below.setCell ?_ (by first | omega | (simp; done) | (simp; omega)) _)))).mono ?_; rintro e w1 ⟨A1, c1, rfl, ho1, hb⟩; have hB : Below w.heap.size w w1 := Below.thenn (by repeat (first | exact Below.refl _ _ | assumption | apply Below.drew | apply below_drewN | (refine Below.alloc ?_ (by first | omega | (simp; done) | (simp; omega)) _) | (refine Below.setCell ?_ (by first | omega | (simp; done) | (simp; omega)) _))) hb (by first | omega | (simp; done) | (simp; omega)); have hz : w.heap.size + 3 ≤ w1.heap.size := (by have h := hb.size; (try simp at h); omega); (have ho1 : OwR w1 (w.heap.size + 3) 56 2 (.slice A1 rows.length c1) rows := ho1.base (by simp)); obtain ⟨hc, hf⟩ := bcell hb; clear hb)
  go_light
  refine bodyPost_ret (v := .agg #[.int .i64 m, .int .i64 p, .slice A1 rows.length c1]) ?_ rfl ⟨A1, c1, rfl, OwR.base (B := w.heap.size + 3) (by repeat (first | exact ho1 | refine OwR.set_ ?_ (by first | omega | (simp; done) | (simp; omega)) _)) (by omega), (by repeat (first | exact Below.refl _ _ | assumption | apply Below.drew | apply below_drewN | (refine Below.alloc ?_ (by first | omega | (simp; done) | (simp; omega)) _) | (refine Below.setCell ?_ (by first | omega | (simp; done) | (simp; omega)) _)))⟩
  simp [results, Try.results16, go_sem, *]
theorem laws_eqDrive (m p : Int) (A A' : Option Addr) (n n' c c' : Nat) (rows : List (List Int)) (w : World) (h : RdR w 2 A n rows) (h' : RdR w 2 A' n' rows) (hm : n ≤ 9223372036854775807) :
    Calls Try.prog 18 #[.agg #[.int .i64 m, .int .i64 p, .slice A n c], .agg #[.int .i64 m, .int .i64 p, .slice A' n' c']] w (Ret w (.bool true)) := by
  have CE := Lib.hid (fun w' (hb : Below w.heap.size w w') => laws_eqBrakeS A A' n n' c c' rows w' (h.below hb) (h'.below hb) hm)
  clear h h'
  go_enter Try.func18, Try.ntmps18
  go_wp2_with (go_at_call 54; refine (CE.out _ (by repeat (first | exact Below.refl _ _ | assumption | apply Below.drew | apply below_drewN | (refine Below.alloc ?_ (by first | omega | (simp; done) | (simp; omega)) _) | (refine Below.setCell ?_ (by first | omega | (simp; done) | (simp; omega)) _)))).mono ?_; rintro e w' ⟨rfl, hb⟩; have hB : Below w.heap.size w w' := Below.thenn (by repeat (first | exact Below.refl _ _ | assumption | apply Below.drew | apply below_drewN | (refine Below.alloc ?_ (by first | omega | (simp; done) | (simp; omega)) _) | (refine Below.setCell ?_ (by first | omega | (simp; done) | (simp; omega)) _))) hb (by first | omega | (simp; done) | (simp; omega)); have hz : w.heap.size ≤ w'.heap.size := hB.size; (try (have hz1 : w.heap.size + 1 ≤ w'.heap.size := (by have h := hb.size; (try simp at h); omega))); obtain ⟨hc, hf⟩ := bcell hb; clear hb)
  go_ret
  exact ⟨rfl, (by repeat (first | exact Below.refl _ _ | assumption | apply Below.drew | apply below_drewN | (refine Below.alloc ?_ (by first | omega | (simp; done) | (simp; omega)) _) | (refine Below.setCell ?_ (by first | omega | (simp; done) | (simp; omega)) _)))⟩
theorem laws_markDrive (m p : Int) (A : Option Addr) (n c B : Nat) (xs : List Int) (k0 : Int) (w : World) (h : OwF w B 56 2 (.slice A n c) n xs) (h0 : 0 ≤ k0) (h1 : k0 ≤ 1000000000) (hm : n ≤ 100000000) :
    Calls Try.prog 28 #[.agg #[.int .i64 m, .int .i64 p, .slice A n c], .int .i64 k0] w fun e w' => e = .returned (.int .i64 (k0 + (n * 2 : Nat))) ∧ OwF w' B 56 2 (.slice A n c) n (iota k0 (n * 2)) ∧ w.grownBy w' (Value.slice A n c).ownBlock := by
  have CM := Lib.hid (fun o => laws_markBrakeS A n c B xs k0 (w.alloc o) (h.alloc o) h0 h1 hm)
  have HG := Lib.hid (fun o => only_alloc (World.grownBy.refl w (Value.slice A n c).ownBlock) o)
  clear h
  go_enter Try.func28, Try.ntmps28
  go_wp2_with (go_at_call 62; refine (CM.out _).mono ?_; rintro e w1 ⟨rfl, ho, hg⟩; have HO := Lib.hid ho; have HG1 := Lib.hid (only_trans (HG.out _) hg); clear ho hg)
  go_ret
  exact ⟨rfl, HO.out, HG1.out⟩
theorem laws_szDrive (m p : Int) (A : Option Addr) (n c : Nat) (z : Int) (w : World) (h0 : (n : Int) ≤ z) (h1 : z ≤ 1048576) : Calls Try.prog 14 #[.agg #[.int .i64 m, .int .i64 p, .slice A n c], .int .i64 z] w (Ret w (.int .i64 (z - (n : Int)))) := by
  have h2 : ¬ (z - (n : Int) < 0) := by omega
  go_enter Try.func14, Try.ntmps14
  go_wp2_with (go_at_call 48; refine (laws_szBrakeS _ _ _ _ _ h0 h1).mono ?_; rintro e w' ⟨rfl, rfl⟩)
  all_goals (go_ret; exact ⟨rfl, (by repeat (first | exact Below.refl _ _ | assumption | apply Below.drew | apply below_drewN | (refine Below.alloc ?_ (by first | omega | (simp; done) | (simp; omega)) _) | (refine Below.setCell ?_ (by first | omega | (simp; done) | (simp; omega)) _)))⟩)
theorem laws_szDrive_big (m p : Int) (A : Option Addr) (n c : Nat) (z : Int) (w : World) (h0 : z < (n : Int)) (h1 : 0 ≤ z) (h3 : z ≤ 1048576) (hm : n ≤ 9223372036854775807) : Calls Try.prog 14 #[.agg #[.int .i64 m, .int .i64 p, .slice A n c], .int .i64 z] w (Ret w (.int .i64 (-1))) := by
  go_enter Try.func14, Try.ntmps14
  go_wp2_with (go_at_call 48; refine (laws_szBrakeS_big _ _ _ _ _ h0 h1 h3 hm).mono ?_; rintro e w' ⟨rfl, rfl⟩)
  all_goals (go_ret; exact ⟨rfl, (by repeat (first | exact Below.refl _ _ | assumption | apply Below.drew | apply below_drewN | (refine Below.alloc ?_ (by first | omega | (simp; done) | (simp; omega)) _) | (refine Below.setCell ?_ (by first | omega | (simp; done) | (simp; omega)) _)))⟩)
end Go.Proofs.Ythijklidjdhkdaa
