/- The fastest profile under limits: the two orders of passes agree. Plain lists; no program in sight. -/
import Derived.Test.YthhameglamemkaaSpeedD
namespace Go.Proofs.Ythhameglamemkaa
open Go.RowKit
set_option linter.unusedVariables false
set_option linter.unusedSimpArgs false

def fwdF (a : Int) : Int → List Int → List Int
  | _, [] => []
  | p, x :: r => min x (p + a) :: fwdF a (min x (p + a)) r
def fwd (a : Int) (l : List Int) : List Int := match l with | [] => [] | x :: r => x :: fwdF a x r
def bwd (a : Int) : List Int → List Int
  | [] => []
  | x :: r => match bwd a r with | [] => [x] | y :: s => min x (y + a) :: y :: s
def lep : List Int → List Int → Prop
  | [], [] => True
  | x :: r, y :: s => x ≤ y ∧ lep r s
  | _, _ => False
def upl (a : Int) : List Int → Prop
  | x :: y :: r => y ≤ x + a ∧ upl a (y :: r)
  | _ => True
def dnl (a : Int) : List Int → Prop
  | x :: y :: r => x ≤ y + a ∧ dnl a (y :: r)
  | _ => True
theorem lep_refl : ∀ l, lep l l | [] => trivial | _ :: r => ⟨Int.le_refl _, lep_refl r⟩
theorem lep_trans : ∀ {a b c}, lep a b → lep b c → lep a c
  | [], [], [], _, _ => trivial
  | _ :: _, _ :: _, _ :: _, ⟨h, hs⟩, ⟨k, ks⟩ => ⟨Int.le_trans h k, lep_trans hs ks⟩
theorem lep_anti : ∀ {a b}, lep a b → lep b a → a = b
  | [], [], _, _ => rfl
  | _ :: _, _ :: _, ⟨h, hs⟩, ⟨k, ks⟩ => by rw [Int.le_antisymm h k, lep_anti hs ks]
theorem fwdF_le (a : Int) : ∀ (p : Int) (l : List Int), lep (fwdF a p l) l
  | _, [] => trivial
  | p, x :: r => ⟨(by omega : min x (p + a) ≤ x), fwdF_le a _ r⟩
theorem fwd_le (a : Int) (l : List Int) : lep (fwd a l) l := by
  cases l with
  | nil => trivial
  | cons x r => exact ⟨Int.le_refl _, fwdF_le a x r⟩
theorem fwdF_up (a : Int) : ∀ (p : Int) (l : List Int), upl a (p :: fwdF a p l)
  | _, [] => trivial
  | p, x :: r => ⟨by omega, fwdF_up a _ r⟩
theorem fwd_up (a : Int) (l : List Int) : upl a (fwd a l) := by
  cases l with
  | nil => trivial
  | cons x r => exact fwdF_up a x r
theorem fwdF_max (a : Int) : ∀ (p q : Int) (l m : List Int), q ≤ p → upl a (q :: m) → lep m l → lep m (fwdF a p l)
  | _, _, [], [], _, _, _ => trivial
  | p, q, x :: r, y :: s, hq, ⟨h1, h2⟩, ⟨h3, h4⟩ => ⟨by omega, fwdF_max a _ y r s (by omega) h2 h4⟩
theorem fwd_max (a : Int) (l m : List Int) (h : upl a m) (hle : lep m l) : lep m (fwd a l) := by
  match l, m, hle with
  | [], [], _ => trivial
  | x :: r, y :: s, ⟨h1, h2⟩ => exact ⟨h1, fwdF_max a x y r s h1 h h2⟩
theorem bwd_cons (a x : Int) (r : List Int) (y : Int) (s : List Int) (h : bwd a r = y :: s) : bwd a (x :: r) = min x (y + a) :: y :: s := by simp [bwd, h]
theorem bwd_ne (a : Int) : ∀ (x : Int) (r : List Int), ∃ y s, bwd a (x :: r) = y :: s
  | x, [] => ⟨x, [], rfl⟩
  | x, z :: r => by
    obtain ⟨y, s, h⟩ := bwd_ne a z r
    exact ⟨_, _, bwd_cons a x _ y s h⟩
theorem bwd_le (a : Int) : ∀ (l : List Int), lep (bwd a l) l
  | [] => trivial
  | [x] => ⟨Int.le_refl _, trivial⟩
  | x :: z :: r => by
    obtain ⟨y, s, h⟩ := bwd_ne a z r
    have ih := bwd_le a (z :: r)
    rw [bwd_cons a x _ y s h]
    rw [h] at ih
    exact ⟨by omega, ih⟩
theorem bwd_dn (a : Int) : ∀ (l : List Int), dnl a (bwd a l)
  | [] => trivial
  | [x] => trivial
  | x :: z :: r => by
    obtain ⟨y, s, h⟩ := bwd_ne a z r
    have ih := bwd_dn a (z :: r)
    rw [bwd_cons a x _ y s h]
    rw [h] at ih
    exact ⟨by omega, ih⟩
theorem bwd_max (a : Int) : ∀ (l m : List Int), dnl a m → lep m l → lep m (bwd a l)
  | [], [], _, _ => trivial
  | [x], [y], _, h => h
  | [x], y :: z :: r, _, h => by simp [lep] at h
  | x :: z :: r, [y], _, h => by simp [lep] at h
  | x :: z :: r, u :: v :: m, ⟨h1, h2⟩, ⟨h3, h4⟩ => by
    obtain ⟨y, s, h⟩ := bwd_ne a z r
    have ih := bwd_max a (z :: r) (v :: m) h2 h4
    rw [bwd_cons a x _ y s h]
    rw [h] at ih
    exact ⟨by have := ih.1; omega, ih⟩
theorem bwd_up (a : Int) (ha : 0 ≤ a) : ∀ (l : List Int), upl a l → upl a (bwd a l)
  | [], _ => trivial
  | [x], _ => trivial
  | x :: z :: r, ⟨h1, h2⟩ => by
    obtain ⟨y, s, h⟩ := bwd_ne a z r
    have ih := bwd_up a ha (z :: r) h2
    have hl := bwd_le a (z :: r)
    rw [bwd_cons a x _ y s h]
    rw [h] at ih hl
    exact ⟨by have := hl.1; omega, ih⟩
theorem fwdF_dn (a : Int) (ha : 0 ≤ a) : ∀ (p q : Int) (l : List Int), p ≤ q → dnl a (q :: l) → dnl a (p :: fwdF a p l)
  | _, _, [], _, _ => trivial
  | p, q, x :: r, hq, ⟨h1, h2⟩ => ⟨by omega, fwdF_dn a ha _ x r (by omega) h2⟩
theorem fwd_dn (a : Int) (ha : 0 ≤ a) (l : List Int) (h : dnl a l) : dnl a (fwd a l) := by
  cases l with
  | nil => trivial
  | cons x r => exact fwdF_dn a ha x x r (Int.le_refl _) h
theorem keeps_iff (a : Int) : ∀ (x : Int) (r : List Int), keepsF a x r = true ↔ upl a (x :: r) ∧ dnl a (x :: r)
  | x, [] => by simp [keepsF, upl, dnl]
  | x, y :: r => by
    have ih := keeps_iff a y r
    simp only [keepsF, Bool.and_eq_true, ih, upl, dnl, inr, decide_eq_true_eq]
    constructor
    · rintro ⟨h, h1, h2⟩; exact ⟨⟨by omega, h1⟩, ⟨by omega, h2⟩⟩
    · rintro ⟨⟨h, h1⟩, ⟨h', h2⟩⟩; exact ⟨by omega, h1, h2⟩

/-- The limits with another first speed. -/
def setHd (f : Int) : List Int → List Int | [] => [] | _ :: r => f :: r
def fI (l : List Int) (f a : Int) : List Int := bwd a (fwd a (setHd f l))
def fS (l : List Int) (f a : Int) : List Int := fwd a (setHd f (bwd a l))
theorem fI_le {l : List Int} {f a : Int} : lep (fI l f a) (setHd f l) := lep_trans (bwd_le a _) (fwd_le a _)
theorem fI_up {l : List Int} {f a : Int} (ha : 0 ≤ a) : upl a (fI l f a) := bwd_up a ha _ (fwd_up a _)
theorem fI_dn {l : List Int} {f a : Int} : dnl a (fI l f a) := bwd_dn a _
theorem fI_max {l m : List Int} {f a : Int} (h1 : upl a m) (h2 : dnl a m) (h3 : lep m (setHd f l)) : lep m (fI l f a) := bwd_max a _ _ h2 (fwd_max a _ _ h1 h3)
theorem setHd_le {x f : Int} {r : List Int} (h : f ≤ x) : lep (setHd f (x :: r)) (x :: r) := ⟨h, lep_refl r⟩

theorem fast_same {x f a y : Int} {r s : List Int} (ha : 0 ≤ a) (hx : f ≤ x) (hb : bwd a (x :: r) = y :: s) (hy : f ≤ y) :
    fI (x :: r) f a = fS (x :: r) f a ∧ (fS (x :: r) f a).head? = some f ∧ keeps (fS (x :: r) f a) a = true := by
  have hbl := bwd_le a (x :: r)
  have hbd := bwd_dn a (x :: r)
  rw [hb] at hbl hbd
  have hS : fS (x :: r) f a = fwd a (f :: s) := by simp [fS, hb, setHd]
  have hdn : dnl a (f :: s) := by
    match s, hbd with
    | [], _ => trivial
    | z :: s, ⟨h1, h2⟩ => exact ⟨by omega, h2⟩
  have hSd : dnl a (fS (x :: r) f a) := by rw [hS]; exact fwd_dn a ha _ hdn
  have hSu : upl a (fS (x :: r) f a) := by rw [hS]; exact fwd_up a _
  have hSle : lep (fS (x :: r) f a) (setHd f (x :: r)) := by
    rw [hS]
    exact lep_trans (fwd_le a _) ⟨Int.le_refl _, hbl.2⟩
  have h1 : lep (fS (x :: r) f a) (fI (x :: r) f a) := fI_max hSu hSd hSle
  have h2 : lep (fI (x :: r) f a) (fS (x :: r) f a) := by
    rw [hS]
    refine fwd_max a _ _ (fI_up ha) ?_
    have hIle := fI_le (l := x :: r) (f := f) (a := a)
    have hIx : lep (fI (x :: r) f a) (x :: r) := lep_trans hIle (setHd_le hx)
    have hIb := bwd_max a _ _ (fI_dn (l := x :: r) (f := f) (a := a)) hIx
    rw [hb] at hIb
    generalize fI (x :: r) f a = m at hIle hIb
    match m, hIb, hIle with
    | u :: m, ⟨_, h⟩, ⟨h', _⟩ => exact ⟨h', h⟩
  have e := lep_anti h2 h1
  refine ⟨e, by rw [hS]; rfl, ?_⟩
  rw [hS] at hSd hSu ⊢
  exact (keeps_iff a f _).2 ⟨hSu, hSd⟩
theorem fast_not {x f a y : Int} {r s : List Int} (ha : 0 ≤ a) (hx : f ≤ x) (hb : bwd a (x :: r) = y :: s) (hy : y < f) : (fI (x :: r) f a).head? ≠ some f := by
  have hIle := fI_le (l := x :: r) (f := f) (a := a)
  have hIx : lep (fI (x :: r) f a) (x :: r) := lep_trans hIle (setHd_le hx)
  have hIb := bwd_max a _ _ (fI_dn (l := x :: r) (f := f) (a := a)) hIx
  rw [hb] at hIb
  generalize fI (x :: r) f a = m at hIb
  match m, hIb with
  | u :: m, ⟨h, _⟩ =>
    intro e
    injection e with e
    omega
theorem lep_len : ∀ {a b}, lep a b → a.length = b.length
  | [], [], _ => rfl
  | _ :: _, _ :: _, ⟨_, h⟩ => by simp [lep_len h]
end Go.Proofs.Ythhameglamemkaa
