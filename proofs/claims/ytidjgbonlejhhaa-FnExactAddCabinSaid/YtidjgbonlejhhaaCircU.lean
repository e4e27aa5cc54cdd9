/- The circle: a cabin is added: the program's state and its plain law. -/
import Derived.Test.YtidjgbonlejhhaaCircT
namespace Go.Proofs.Ytidjgbonlejhhaa
open Go.RowKit
set_option linter.unusedVariables false
set_option linter.unusedSimpArgs false

/-- The place and the gap that the program has found behind k gaps. -/
def addM (l : Int) (zs : List Int) (k : Nat) : Int := if k = 0 then 0 else gapZ l zs (bestTo l zs (k - 1))
def addQ (l : Int) (zs : List Int) (k : Nat) : Int := if k = 0 then 0 else midP l zs (bestTo l zs (k - 1))
theorem add_take {l s : Int} {zs : List Int} (h : circOk l s zs = true) {k : Nat} (hk : k < zs.length) (ht : addM l zs k < gapZ l zs k) : addM l zs (k + 1) = gapZ l zs k ∧ addQ l zs (k + 1) = midP l zs k := by
  have e : bestTo l zs k = k := by
    match k, ht with
    | 0, _ => rfl
    | j + 1, ht =>
      simp only [addM, Nat.succ_ne_zero, if_false, Nat.add_sub_cancel, reduceCtorEq] at ht
      unfold bestTo
      rw [if_pos (by simpa using ht)]
  simp [addM, addQ, e]
theorem add_keep {l s : Int} {zs : List Int} (h : circOk l s zs = true) {k : Nat} (hk : k < zs.length) (ht : ¬ addM l zs k < gapZ l zs k) : addM l zs (k + 1) = addM l zs k ∧ addQ l zs (k + 1) = addQ l zs k := by
  match k, hk, ht with
  | 0, hk, ht =>
    have := gap_pos h hk
    simp [addM] at ht
    omega
  | j + 1, hk, ht =>
    have e : bestTo l zs (j + 1) = bestTo l zs j := by
      simp only [addM, Nat.succ_ne_zero, if_false, Nat.add_sub_cancel, reduceCtorEq] at ht
      conv => lhs; unfold bestTo
      rw [if_neg (by simpa using ht)]
    simp [addM, addQ, e]
theorem addQ_end (l : Int) (zs : List Int) : addQ l zs zs.length = addP l zs := by
  unfold addQ addP
  rfl
theorem addM_bd {l s : Int} {zs : List Int} (h : circOk l s zs = true) {k : Nat} (hk : k ≤ zs.length) : 0 ≤ addM l zs k ∧ addM l zs k ≤ 4000 := by
  unfold addM
  split
  · omega
  · have h1 := bestTo_le l zs (k - 1)
    have h2 := gap_pos h (show bestTo l zs (k - 1) < zs.length by omega)
    have h3 := gap_le h (show bestTo l zs (k - 1) < zs.length by omega)
    have := (circOk_iff.1 h).1.2
    omega
/-- The program's test is the reference's. -/
theorem add_alt {l s : Int} {zs : List Int} {m : Int} (h : circOk l s zs = true) (hm : inr m 1 4000 = true) :
    addOk l s zs m = (circOk l s (srtZ (zs ++ [addP l zs])) && decide (m ≤ minL (gapsL l (srtZ (zs ++ [addP l zs]))))) ∧ (addOk l s zs m = true → addV l s zs m = srtZ (zs ++ [addP l zs])) := by
  by_cases h2 : zs.length = 0 ∨ 2 ≤ gapZ l zs (bestTo l zs (zs.length - 1))
  · have e := add_srt h h2
    rw [e]
    refine ⟨?_, fun hok => by simp [addV, hok]⟩
    unfold addOk
    rw [h, hm]
    have : (decide (zs.length = 0) || decide (2 ≤ gapZ l zs (bestTo l zs (zs.length - 1)))) = true := by simpa using h2
    rw [this]
    simp
  · have h0 : zs.length ≠ 0 := fun e => h2 (.inl e)
    have h3 : gapZ l zs (bestTo l zs (zs.length - 1)) < 2 := by
      rcases Int.lt_or_le (gapZ l zs (bestTo l zs (zs.length - 1))) 2 with h4 | h4
      · exact h4
      · exact absurd (.inr h4) h2
    have hno : addOk l s zs m = false := by
      unfold addOk
      have : (decide (zs.length = 0) || decide (2 ≤ gapZ l zs (bestTo l zs (zs.length - 1)))) = false := by simp; exact ⟨by intro e; subst e; exact h0 rfl, h3⟩
      rw [this]
      simp
    rw [add_dup h h0 h3, hno]
    exact ⟨by simp, fun e => by cases e⟩

theorem wp_app_intM {ops : Array Oper} {rest : List Oper} {o : Oper} {a : Act} {Q : Exit → Act → World → Prop} (hgd : o.guard = none) (s x : Operand)
    (ho : o.op = .call { callee := .builtin .append, args := #[s, x], argTypes := #[22, 22] }) (w : World) (B : Nat) (v : Value) (zs : List Int) (z : Int)
    (hs : a.eval s = v) (hown : Ow w B v zs) (hx : a.eval x = .slice (some ⟨w.heap.size, 0, none⟩) 1 1) (m : Nat) (hm : zs.length = m) (hl : m < 1099511627776) (hB : B ≤ w.heap.size)
    (h : ∀ A c w', Ow w' B (.slice A (m + 1) c) (zs ++ [z]) → w.grownBy w' v.ownBlock → wpList Try.prog ops Q rest (a.put o.dst (.slice A (m + 1) c)) w') :
    wpList Try.prog ops Q (o :: rest) a (w.alloc (.cells #[.int .i64 z] 3)) := by
  subst hm
  obtain ⟨i0, hi0, hz0, hz1, hz2⟩ := info_parts info_int
  have hrd : Rd (w.alloc (.cells #[.int .i64 z] 3)) 1 (some ⟨w.heap.size, 0, none⟩) 1 [.int .i64 z] := by
    have := Rd.of_block (n := 1) (size := 1) (heap_alloc_new w (.cells #[.int .i64 z] 3)) rfl
    simpa using this
  refine wpList_append_any _ hgd s x _ ho B 3 i0 (.int .i64 0) 1 8 Try.underlying22 hi0 hz0 hz1 hz2 rfl (by omega) v zs.length (IV zs) hs (World.ownsRow.alloc hown _) _ 1 1 [.int .i64 z] hx hrd (by simp [Value.oneCell'])
    (by simp only [maxLen]; omega) (by omega) (by simp; omega) ?_
  intro A' c' w' hown' hg
  exact h A' c' w' (by simpa [Ow] using hown') (only_trans (only_alloc (World.grownBy.refl w _) _) hg)

/-- The program's boxes: the circle that came, the result, the circle that is made. -/
def AS (wo w : World) (p : Nat) (l s : Int) (A : Option Addr) (n c : Nat) (Ao : Option Addr) (no co : Nat) (os : List Int) : Prop :=
  Below wo.heap.size wo w ∧ Blk w wo.heap.size 27 #[.int .i64 l, .int .i64 s, .slice A n c] ∧ Blk w (wo.heap.size + 1) 27 #[.int .i64 0, .int .i64 0, .slice none 0 0] ∧
  Blk w p 27 #[.int .i64 l, .int .i64 s, .slice Ao no co] ∧ Ow w wo.heap.size (.slice Ao no co) os ∧ wo.heap.size + 1 < p
section
variable {wo w w' : World} {p : Nat} {l s : Int} {A Ao : Option Addr} {n c no co : Nat} {os : List Int}
theorem AS.bel (h : AS wo w p l s A n c Ao no co os) : Below wo.heap.size wo w := h.1
theorem AS.boxQ (h : AS wo w p l s A n c Ao no co os) : Blk w (wo.heap.size + 1) 27 #[.int .i64 0, .int .i64 0, .slice none 0 0] := h.2.2.1
theorem AS.own (h : AS wo w p l s A n c Ao no co os) : Ow w wo.heap.size (.slice Ao no co) os := h.2.2.2.2.1
theorem AS.size (h : AS wo w p l s A n c Ao no co os) : wo.heap.size ≤ w.heap.size := h.1.size
theorem AS.below (h : AS wo w p l s A n c Ao no co os) (hb : Below w.heap.size w w') : AS wo w' p l s A n c Ao no co os := by
  obtain ⟨h1, h2, h3, h4, h5, h6⟩ := h
  exact ⟨Below.thenn h1 hb h1.size, h2.below hb h2.lt, h3.below hb h3.lt, h4.below hb h4.lt, h5.below hb, h6⟩
theorem AS.past (h : AS wo w p l s A n c Ao no co os) {os' : List Int} (ho : Ow w' wo.heap.size (.slice Ao no co) os') (hG : w.grownBy w' (Value.slice Ao no co).ownBlock) : AS wo w' p l s A n c Ao no co os' := by
  obtain ⟨h1, h2, h3, h4, h5, h6⟩ := h
  exact ⟨h1.grown hG h1.size (fun k hk => h5.block_ge k hk), h2.past h5 hG, h3.past h5 hG, h4.past h5 hG, ho, h6⟩
theorem AS.app (h : AS wo w p l s A n c Ao no co os) {os' : List Int} {A' : Option Addr} {m' c' : Nat} (ho : Ow w' wo.heap.size (.slice A' m' c') os') (hG : w.grownBy w' (Value.slice Ao no co).ownBlock) :
    AS wo (w'.setCell ⟨p, 2, none⟩ (.slice A' m' c')) p l s A n c A' m' c' os' := by
  obtain ⟨h1, h2, h3, h4, h5, h6⟩ := h
  have b4 := h4.past h5 hG
  refine ⟨(h1.grown hG h1.size (fun k hk => h5.block_ge k hk)).setCell (by simp; omega) _, (h2.past h5 hG).far (by simp; omega) _, (h3.past h5 hG).far (by simp; omega) _, ?_, ho.boxed b4 2 _, h6⟩
  simpa using b4.set_ 2 (.slice A' m' c')
theorem AS.app_cells (h : AS wo w p l s A n c Ao no co os) (hG : w.grownBy w' (Value.slice Ao no co).ownBlock) :
    w'.cell? ⟨p, 0, none⟩ = some (.int .i64 l) ∧ w'.cell? ⟨p, 1, none⟩ = some (.int .i64 s) ∧ w'.cell? ⟨p, 2, none⟩ = some (.slice Ao no co) ∧ w'.frozen? ⟨p, 0, none⟩ = false ∧ w'.frozen? ⟨p, 1, none⟩ = false ∧ w'.frozen? ⟨p, 2, none⟩ = false := by
  obtain ⟨h1, h2, h3, h4, h5, h6⟩ := h
  exact (h4.past h5 hG).cells3
theorem AS.cellsP (h : AS wo w p l s A n c Ao no co os) :
    w.cell? ⟨p, 0, none⟩ = some (.int .i64 l) ∧ w.cell? ⟨p, 1, none⟩ = some (.int .i64 s) ∧ w.cell? ⟨p, 2, none⟩ = some (.slice Ao no co) ∧ w.frozen? ⟨p, 0, none⟩ = false ∧ w.frozen? ⟨p, 1, none⟩ = false ∧ w.frozen? ⟨p, 2, none⟩ = false := h.2.2.2.1.cells3
theorem AS.cellsQ (h : AS wo w p l s A n c Ao no co os) :
    w.cell? ⟨wo.heap.size + 1, 0, none⟩ = some (.int .i64 0) ∧ w.cell? ⟨wo.heap.size + 1, 1, none⟩ = some (.int .i64 0) ∧ w.cell? ⟨wo.heap.size + 1, 2, none⟩ = some (.slice none 0 0) ∧ w.frozen? ⟨wo.heap.size + 1, 0, none⟩ = false ∧ w.frozen? ⟨wo.heap.size + 1, 1, none⟩ = false ∧ w.frozen? ⟨wo.heap.size + 1, 2, none⟩ = false := h.2.2.1.cells3
theorem AS.cellsC (h : AS wo w p l s A n c Ao no co os) :
    w.cell? ⟨wo.heap.size, 0, none⟩ = some (.int .i64 l) ∧ w.cell? ⟨wo.heap.size, 1, none⟩ = some (.int .i64 s) ∧ w.cell? ⟨wo.heap.size, 2, none⟩ = some (.slice A n c) ∧ w.frozen? ⟨wo.heap.size, 0, none⟩ = false ∧ w.frozen? ⟨wo.heap.size, 1, none⟩ = false ∧ w.frozen? ⟨wo.heap.size, 2, none⟩ = false := h.2.1.cells3
theorem AS.mk1 (hB : Below wo.heap.size wo w) (h1 : Blk w wo.heap.size 27 #[.int .i64 l, .int .i64 s, .slice A n c]) (h2 : Blk w (wo.heap.size + 1) 27 #[.int .i64 0, .int .i64 0, .slice none 0 0]) (ho : Ow w wo.heap.size (.slice Ao no co) os) (hs : wo.heap.size + 1 < w.heap.size) :
    AS wo (w.alloc (.cells #[.int .i64 l, .int .i64 s, .slice Ao no co] 27)) w.heap.size l s A n c Ao no co os :=
  ⟨hB.alloc hB.size _, h1.alloc _, h2.alloc _, Blk.new _ _ _, ho.alloc _, hs⟩
theorem AS.mk2 {cs : Array Value} (hB : Below wo.heap.size wo w) (h1 : Blk w wo.heap.size 27 #[.int .i64 l, .int .i64 s, .slice A n c]) (h2 : Blk w (wo.heap.size + 1) 27 #[.int .i64 0, .int .i64 0, .slice none 0 0]) (hx : Blk w p 27 #[.int .i64 0, .int .i64 0, .slice none 0 0]) (ho : Ow w wo.heap.size (.slice Ao no co) os) (hp : wo.heap.size + 1 < p) :
    AS wo (((w.setCell ⟨p, 0, none⟩ (.int .i64 l)).setCell ⟨p, 1, none⟩ (.int .i64 s)).setCell ⟨p, 2, none⟩ (.slice Ao no co)) p l s A n c Ao no co os := by
  refine ⟨Below.set3 hB (by omega) _ _ _, ((h1.far (by simp; omega) _).far (by simp; omega) _).far (by simp; omega) _, ((h2.far (by simp; omega) _).far (by simp; omega) _).far (by simp; omega) _, ?_, ((ho.boxed hx 0 _).boxed (hx.set_ 0 _) 1 _).boxed ((hx.set_ 0 _).set_ 1 _) 2 _, hp⟩
  simpa using ((hx.set_ 0 (.int .i64 l)).set_ 1 (.int .i64 s)).set_ 2 (.slice Ao no co)
end
theorem clone_n (A : Option Addr) (n c : Nat) (xs : List Int) (w : World) (h : Rd w 1 A n (IV xs)) (hn : n ≤ 1048576) (hA : A = none → c = 0 ∧ n = 0) :
    Calls Try.prog 72 #[.slice A n c] w fun e w' => ∃ A' c', e = .returned (.slice A' n c') ∧ Ow w' w.heap.size (.slice A' n c') xs ∧ Below w.heap.size w w' := by
  have e := h.len
  subst e
  exact slices_Clone A _ c xs w h hn hA
end Go.Proofs.Ytidjgbonlejhhaa
