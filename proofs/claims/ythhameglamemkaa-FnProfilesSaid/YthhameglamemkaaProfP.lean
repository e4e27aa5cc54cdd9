/- The fastest profile is fastest in every second; a joined profile has the sum of the ways. Plain. -/
import Derived.Test.YthhameglamemkaaFastC
import Derived.Test.YthhameglamemkaaJoin
namespace Go.Proofs.Ythhameglamemkaa
open Go.RowKit
set_option linter.unusedVariables false
set_option linter.unusedSimpArgs false

theorem fwdF_at (a : Int) : ∀ (p : Int) (r : List Int) (i : Nat) (x : Int), r[i]? = some x → ∃ p' o, (p :: fwdF a p r)[i]? = some p' ∧ (p :: fwdF a p r)[i + 1]? = some o ∧ o = min x (p' + a)
  | p, [], i, x, h => by simp at h
  | p, y :: r, 0, x, h => by
    simp at h
    subst h
    exact ⟨p, min y (p + a), by simp, by simp [fwdF], rfl⟩
  | p, y :: r, i + 1, x, h => by
    obtain ⟨p', o, h1, h2, h3⟩ := fwdF_at a (min y (p + a)) r i x (by simpa using h)
    exact ⟨p', o, by simpa [fwdF] using h1, by simpa [fwdF] using h2, h3⟩
theorem bwd_at (a : Int) : ∀ (l : List Int) (i : Nat) (x : Int), l[i]? = some x → (i + 1 = l.length ∧ (bwd a l)[i]? = some x) ∨ ∃ y, (bwd a l)[i + 1]? = some y ∧ (bwd a l)[i]? = some (min x (y + a))
  | [], i, x, h => by simp at h
  | [z], 0, x, h => by left; simp at h; subst h; simp [bwd]
  | [z], i + 1, x, h => by simp at h
  | z :: u :: r, 0, x, h => by
    right
    simp at h
    subst h
    obtain ⟨y, s, hb⟩ := bwd_ne a u r
    rw [bwd_cons a z _ y s hb]
    exact ⟨y, by simp, by simp⟩
  | z :: u :: r, i + 1, x, h => by
    obtain ⟨y, s, hb⟩ := bwd_ne a u r
    rw [bwd_cons a z _ y s hb]
    rcases bwd_at a (u :: r) i x (by simpa using h) with ⟨h1, h2⟩ | ⟨y', h1, h2⟩
    · left
      rw [hb] at h2
      exact ⟨by simp at h1 ⊢; omega, by simpa using h2⟩
    · right
      rw [hb] at h1 h2
      exact ⟨y', by simpa using h1, by simpa using h2⟩
theorem bwd_ge (a : Int) (ha : 0 ≤ a) : ∀ (l : List Int), (∀ z ∈ l, 0 ≤ z) → ∀ z ∈ bwd a l, 0 ≤ z
  | [], _ => by simp [bwd]
  | [x], h => by simpa [bwd] using h
  | x :: u :: r, h => by
    obtain ⟨y, s, hb⟩ := bwd_ne a u r
    have ih := bwd_ge a ha (u :: r) (fun z hz => h z (by simp [hz]))
    rw [bwd_cons a x _ y s hb]
    rw [hb] at ih
    have h0 := h x (by simp)
    have h1 := ih y (by simp)
    intro z hz
    simp only [List.mem_cons] at hz
    rcases hz with rfl | hz
    · omega
    · exact ih z (by simpa using hz)
theorem fwdF_ge (a : Int) (ha : 0 ≤ a) : ∀ (p : Int) (l : List Int), 0 ≤ p → (∀ z ∈ l, 0 ≤ z) → ∀ z ∈ fwdF a p l, 0 ≤ z
  | _, [], _, _ => by simp [fwdF]
  | p, x :: r, hp, h => by
    have h0 := h x (by simp)
    have ih := fwdF_ge a ha (min x (p + a)) r (by omega) (fun z hz => h z (by simp [hz]))
    intro z hz
    simp only [fwdF, List.mem_cons] at hz
    rcases hz with rfl | hz
    · omega
    · exact ih z hz
theorem fwd_fix {a : Int} {m : List Int} (h : upl a m) : fwd a m = m := lep_anti (fwd_le a m) (fwd_max a m m h (lep_refl m))
theorem bwd_fix {a : Int} {m : List Int} (h : dnl a m) : bwd a m = m := lep_anti (bwd_le a m) (bwd_max a m m h (lep_refl m))
theorem getD_of {l : List Int} {i : Nat} {x : Int} (h : l[i]? = some x) : l.getD i 0 = x := by simp [List.getD, h]

/-- What the law says of the fastest profile. -/
theorem fast_facts {l : List Int} {f a : Int} (h : fastOk l f a = true) :
    prof (fastR l f a) = true ∧ inr a 1 20 = true ∧ keeps (fastR l f a) a = true ∧ fastOk (fastR l f a) f a = true ∧ fastR (fastR l f a) f a = fastR l f a ∧ (fastR l f a).length = l.length ∧ (fastR l f a)[0]? = some f := by
  have hR : fastR l f a = fS l f a := by simp [fastR, h]
  rw [hR]
  simp only [fastOk, Bool.and_eq_true, decide_eq_true_eq] at h
  obtain ⟨hp, ha, hf, hy⟩ := h
  have hp' := hp
  have ha' := ha
  simp only [prof, Bool.and_eq_true, decide_eq_true_eq, List.all_eq_true, inr] at hp
  simp only [inr, decide_eq_true_eq] at ha
  match l, hp, hy with
  | x :: r, ⟨⟨hl1, hl2⟩, hl3⟩, hy =>
    obtain ⟨y, s, hb⟩ := bwd_ne a x r
    rw [hb] at hy
    have hy : f ≤ y := of_decide_eq_true hy
    have hyx : y ≤ x := by have := bwd_le a (x :: r); rw [hb] at this; exact this.1
    obtain ⟨e1, e2, e3⟩ := fast_same (by omega) (by omega) hb hy
    have hS : fS (x :: r) f a = fwd a (f :: s) := by simp [fS, hb, setHd]
    have hlen := fS_len (x :: r) f a
    obtain ⟨m, hm⟩ : ∃ m, fS (x :: r) f a = f :: m := by rw [hS]; exact ⟨_, rfl⟩
    have hk := e3
    rw [hm] at hk
    have hud := (keeps_iff a f m).1 hk
    have hge : ∀ z ∈ fS (x :: r) f a, 0 ≤ z := by
      rw [hS]
      have h1 := bwd_ge a (by omega) (x :: r) (fun z hz => (hl3 z hz).1)
      rw [hb] at h1
      have h2 := fwdF_ge a (by omega) f s hf (fun z hz => h1 z (by simp [hz]))
      intro z hz
      simp only [fwd, List.mem_cons] at hz
      rcases hz with rfl | hz
      · exact hf
      · exact h2 z hz
    have hle : ∀ z ∈ fS (x :: r) f a, z ≤ 100 := by
      rw [← e1]
      exact lep_bd (lep_trans fI_le (setHd_le (by omega))) (fun z hz => (hl3 z hz).2)
    have hprof : prof (fS (x :: r) f a) = true := by
      simp only [prof, Bool.and_eq_true, decide_eq_true_eq, List.all_eq_true, inr]
      exact ⟨⟨by rw [hlen]; exact hl1, by rw [hlen]; exact hl2⟩, fun z hz => ⟨hge z hz, hle z hz⟩⟩
    have hfix : fS (f :: m) f a = f :: m := by
      unfold fS
      rw [bwd_fix hud.2]
      show fwd a (f :: m) = _
      exact fwd_fix hud.1
    have hok : fastOk (f :: m) f a = true := by
      rw [hm] at hprof
      unfold fastOk
      rw [bwd_fix hud.2, hprof, ha']
      simp [hf]
    rw [hm] at hprof hlen e3 ⊢
    refine ⟨hprof, ha', e3, hok, ?_, hlen, by simp⟩
    unfold fastR
    rw [hok]
    simp [hfix]
/-- No second of the fastest profile could be faster. -/
theorem fast_most {l : List Int} {f a : Int} (h : fastOk l f a = true) {i : Nat} {o x : Int} (ho : (fastR l f a)[i]? = some o) (hx : l[i]? = some x) :
    o ≤ x ∧ (0 < i → ∀ p, (fastR l f a)[i - 1]? = some p → o < x → o < p + a → ∃ q, (fastR l f a)[i + 1]? = some q ∧ q + a ≤ o) := by
  have hR : fastR l f a = fS l f a := by simp [fastR, h]
  rw [hR] at ho ⊢
  simp only [fastOk, Bool.and_eq_true, decide_eq_true_eq] at h
  obtain ⟨hp, ha, hf, hy⟩ := h
  simp only [inr, decide_eq_true_eq] at ha
  match l, hx, hy with
  | x0 :: r, hx, hy =>
    obtain ⟨y, s, hb⟩ := bwd_ne a x0 r
    rw [hb] at hy
    have hy : f ≤ y := of_decide_eq_true hy
    have hyx : y ≤ x0 := by have := bwd_le a (x0 :: r); rw [hb] at this; exact this.1
    have hS : fS (x0 :: r) f a = f :: fwdF a f s := by simp [fS, hb, setHd, fwd]
    rw [hS] at ho ⊢
    match i, ho, hx with
    | 0, ho, hx =>
      simp at ho hx
      subst ho hx
      exact ⟨by omega, fun h => absurd h (by omega)⟩
    | i + 1, ho, hx =>
      rcases bwd_at a (x0 :: r) (i + 1) x hx with ⟨h1, h2⟩ | ⟨y', h1, h2⟩
      · rw [hb] at h2
        obtain ⟨p', o', k1, k2, k3⟩ := fwdF_at a f s i x (by simpa using h2)
        have e : o' = o := by rw [k2] at ho; injection ho
        subst e
        refine ⟨by omega, fun _ p hp2 h3 h4 => ?_⟩
        have e2 : p' = p := by rw [Nat.add_sub_cancel, k1] at hp2; injection hp2
        subst e2
        omega
      · rw [hb] at h1 h2
        obtain ⟨p', o', k1, k2, k3⟩ := fwdF_at a f s i _ (by simpa using h2)
        have e : o' = o := by rw [k2] at ho; injection ho
        subst e
        obtain ⟨p2, q, j1, j2, j3⟩ := fwdF_at a f s (i + 1) y' (by simpa using h1)
        have e3 : p2 = o' := by rw [k2] at j1; injection j1 with j1; exact j1.symm
        subst e3
        refine ⟨by omega, fun _ p hp2 h3 h4 => ⟨q, j2, ?_⟩⟩
        have e2 : p' = p := by rw [Nat.add_sub_cancel, k1] at hp2; injection hp2
        subst e2
        omega

theorem dwF_app : ∀ (p : Int) (xs ys : List Int) (q : Int), (p :: xs).getLast? = some q → dwF p (xs ++ ys) = dwF p xs + dwF q ys
  | p, [], ys, q, h => by simp at h; subst h; simp [dwF]
  | p, x :: xs, ys, q, h => by
    rw [List.getLast?_cons_cons] at h
    have := dwF_app x xs ys q h
    simp only [List.cons_append, dwF, this]
    omega
theorem join_facts {xs ys : List Int} (h : joinOk xs ys = true) : prof xs = true ∧ prof ys = true ∧ prof (joinR xs ys) = true ∧ dwR xs + dwR ys = dwR (joinR xs ys) := by
  have hR : joinR xs ys = xs ++ ys.drop 1 := by simp [joinR, h]
  rw [hR]
  simp only [joinOk, Bool.and_eq_true, decide_eq_true_eq] at h
  obtain ⟨h1, h2, h3, h4⟩ := h
  have l1 := prof_len h1
  have l2 := prof_len h2
  have m1 := prof_mem h1
  have m2 := prof_mem h2
  have hp : prof (xs ++ ys.drop 1) = true := by
    simp only [prof, Bool.and_eq_true, decide_eq_true_eq, List.all_eq_true, inr]
    refine ⟨⟨by simp; omega, by simp; omega⟩, fun z hz => ?_⟩
    rcases List.mem_append.1 hz with hz | hz
    · exact m1 z hz
    · exact m2 z (List.mem_of_mem_drop hz)
  refine ⟨h1, h2, hp, ?_⟩
  unfold dwR
  rw [h1, h2, hp]
  match xs, ys, l1, l2, h3 with
  | x :: xs, y :: ys, _, _, h3 =>
    have := dwF_app x xs ys y (by simpa using h3)
    simp only [if_true, dw, List.drop_succ_cons, List.drop_zero, List.cons_append]
    rw [this]
theorem dwR_bd (xs : List Int) : 0 ≤ dwR xs ∧ dwR xs ≤ 6000 := by
  unfold dwR
  split
  · rename_i h
    have h1 := prof_mem h
    have h2 := prof_len h
    match xs, h1, h2 with
    | x :: r, h1, h2 =>
      have := dwF_bd (M := 100) (by omega) x r (h1 x (by simp)).1 (h1 x (by simp)).2 (fun z hz => h1 z (by simp [hz]))
      simp at h2
      simp only [dw]
      omega
  · omega
end Go.Proofs.Ythhameglamemkaa
