/- A region that draws its order, by an invariant over what has been carried out: each operation is walked once, from any state that the invariant allows; no order is ever laid out. -/
import Derived.Test.YtjfmicemnoglkaaExt
import Derived.RegionTactic
namespace Go.Proofs.Ytjfmicemnoglkaa
open Go.RowKit
set_option linter.unusedVariables false
set_option linter.unusedSimpArgs false

section
variable {P : Program} {ops : Array Oper} {Q : Exit → Act → World → Prop} {md : Region.Mode}
/-- Every operation waits for earlier ones alone. -/
def ontoB (ops : Array Oper) : Bool := (List.range ops.size).all fun i => match ops[i]? with | some o => o.after.all fun e => decide (e.on < i) | none => true
theorem ontoB_lt (h : ontoB ops = true) {i : Nat} {o : Oper} (ho : ops[i]? = some o) : ∀ e ∈ o.after, e.on < i := by
  unfold ontoB at h
  have hi : i < ops.size := (Array.getElem?_eq_some_iff.1 ho).1
  have := (List.all_eq_true.1 h) i (List.mem_range.2 hi)
  rw [ho] at this
  intro e he
  simpa using Array.all_eq_true_iff_forall_mem.1 this e he
/-- Where none may come up, all have come up. -/
theorem ready_nil {l : Array Bool} (hs : l.size = ops.size) (h : ontoB ops = true) (hr : Region.ready md ops l = []) : ∀ i, i < ops.size → l.getD i true = true := by
  intro i
  induction i using Nat.strongRecOn with
  | ind i ih =>
    intro hi
    rcases hb : l.getD i true with _ | _
    · exfalso
      obtain ⟨o, ho⟩ : ∃ o, ops[i]? = some o := ⟨ops[i], Array.getElem?_eq_getElem hi⟩
      have hm : i ∈ Region.ready md ops l := mem_ready.2 ⟨hb, o, ho, fun e he _ => by
        have hlt := ontoB_lt h ho e he
        have := ih e.on hlt (by omega)
        rcases hlo : l[e.on]? with _ | b
        · rw [Array.getElem?_eq_none_iff] at hlo
          omega
        · simpa [Array.getD_eq_getD_getElem?, hlo] using this⟩
      rw [hr] at hm
      cases hm
    · rfl
theorem count_set {l : Array Bool} {i : Nat} (h : l.getD i true = false) : (l.setIfInBounds i true).toList.count false + 1 = l.toList.count false := by
  have hi : i < l.size := by
    rcases Nat.lt_or_ge i l.size with h1 | h1
    · exact h1
    · rw [Array.getD_eq_getD_getElem?, Array.getElem?_eq_none h1] at h
      cases h
  have hv : l.toList[i]'(by simpa using hi) = false := by
    rw [Array.getD_eq_getD_getElem?, Array.getElem?_eq_getElem hi] at h
    simpa using h
  have hc : 0 < l.toList.count false := List.count_pos_iff.2 (hv ▸ List.getElem_mem _)
  rw [Array.toList_setIfInBounds, List.count_set (by simpa using hi), hv]
  generalize l.toList.count false = m at *
  simp only [beq_self_eq_true, if_true, show (true == false) = false from rfl]
  simp
  omega
/-- An invariant I over (what has come up, the frame, the world). -/
theorem wpAny_inv {I : Array Bool → Act → World → Prop} (hsz : ∀ l a w, I l a w → l.size = ops.size)
    (hstep : ∀ l a w, I l a w → ∀ i o, ops[i]? = some o → l.getD i true = false → (∀ e ∈ o.after, Region.binds md e = true → l.getD e.on false = true) →
      ∀ K : Act → World → Prop, Shut (∀ a' w', I (l.setIfInBounds i true) a' w' → K a' w') → if Region.wanted o (yielded ops a.tmps) = true then Oper.wp P o a w K Q else K (a.put o.dst undef) w)
    (hend : ∀ l a w, I l a w → Region.ready md ops l = [] → Q .normal a w) : ∀ (fuel : Nat) (l : Array Bool) (a : Act) (w : World), l.toList.count false ≤ fuel → I l a w → wpAny P md ops Q fuel l a w
  | 0, l, a, w, hf, hI => by
    have hr : Region.ready md ops l = [] := by
      rcases hh : Region.ready md ops l with _ | ⟨j, rs⟩
      · rfl
      · exfalso
        have hj := (mem_ready.1 (show j ∈ Region.ready md ops l by rw [hh]; exact List.mem_cons_self ..)).1
        have := count_set hj
        omega
    exact ⟨hr, hend l a w hI hr⟩
  | fuel + 1, l, a, w, hf, hI => by
    refine ⟨fun hr => hend l a w hI hr, fun i hi => ?_⟩
    obtain ⟨hj, o, ho, hd⟩ := mem_ready.1 hi
    have hc := count_set hj
    refine wpOp_step ho fun K hK => ?_
    exact hstep l a w hI i o ho hj hd K (fun a' w' hI' => hK a' w' (wpAny_inv hsz hstep hend fuel _ a' w' (by omega) hI'))
/-- The steps of a list of operations, from number i on; none is guarded. -/
def Steps (P : Program) (Q : Exit → Act → World → Prop) (I : Array Bool → Act → World → Prop) : Nat → List Oper → Prop
  | _, [] => True
  | i, o :: r => (o.guard = none ∧ ∀ l a w, I l a w → l.getD i true = false → (∀ e ∈ o.after, Region.binds .any e = true → l.getD e.on false = true) →
      ∀ K : Act → World → Prop, Shut (∀ a' w', I (l.setIfInBounds i true) a' w' → K a' w') → Oper.wp P o a w K Q) ∧ Steps P Q I (i + 1) r
theorem Steps.at_ {I : Array Bool → Act → World → Prop} : ∀ {r : List Oper} {i : Nat}, Steps P Q I i r → ∀ {j : Nat} {o : Oper}, r[j]? = some o → o.guard = none ∧ ∀ l a w, I l a w → l.getD (i + j) true = false → (∀ e ∈ o.after, Region.binds .any e = true → l.getD e.on false = true) →
      ∀ K : Act → World → Prop, Shut (∀ a' w', I (l.setIfInBounds (i + j) true) a' w' → K a' w') → Oper.wp P o a w K Q
  | [], _, _, j, o, ho => by simp at ho
  | x :: r, i, h, 0, o, ho => by
    obtain rfl : x = o := by simpa using ho
    exact h.1
  | x :: r, i, h, j + 1, o, ho => by
    have := h.2.at_ (j := j) (by simpa using ho)
    rwa [show i + 1 + j = i + (j + 1) by omega] at this
theorem wp_region_inv {I : Array Bool → Act → World → Prop} {id : Nat} {a : Act} {w : World} {os : List Oper} (hm : P.follows .mixedOrders = true) (hsz : ∀ l a w, I l a w → l.size = os.toArray.size)
    (h0 : I (Array.replicate os.length false) a w.drew)
    (hstep : ∀ Q' : Exit → Act → World → Prop, Steps P Q' I 0 os)
    (hend : ∀ l a w, I l a w → Region.ready .any os.toArray l = [] → Q .normal a w) : (Code.region id os.toArray true).wp P Q a w := by
  refine wp_region_any hm (wpAny_inv hsz (fun l a w hI i o ho => ?_) hend _ _ _ _ ?_ (by simpa using h0))
  · obtain ⟨hgd, this⟩ := (hstep Q).at_ (j := i) (o := o) (by simpa using ho)
    have this := this l a w hI
    rw [Nat.zero_add] at this
    intro h1 h2 K hK
    rw [if_pos (by simp [Region.wanted, hgd])]
    exact this h1 h2 K hK
  · simp [List.count_replicate]
end
end Go.Proofs.Ytjfmicemnoglkaa
