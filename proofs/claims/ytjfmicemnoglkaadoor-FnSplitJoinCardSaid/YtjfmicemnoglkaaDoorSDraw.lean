/- AUTO. The generator's steps (l1Cur): whatever the bytes, a step returns a number in its range and writes its own block alone. -/
import Derived.Test.YtjfmicemnoglkaaDoorBase
namespace Go.Proofs.YtjfmicemnoglkaaDoor
open Go.RowKit
set_option linter.unusedVariables false
set_option linter.unusedSimpArgs false

/-- The bytes that a generator reads. -/
structure Src where
  A : Option Addr
  n : Nat
  c : Nat
  zs : List Int
def Src.ok (S : Src) (w : World) : Prop := Rd w 1 S.A S.n (S.zs.map (Value.int .u8)) ∧ (∀ z ∈ S.zs, 0 ≤ z ∧ z ≤ 255) ∧ S.n ≤ 65536
abbrev Src.val (S : Src) : Value := .slice S.A S.n S.c
/-- Block g is a generator over the bytes S that has taken at most K steps. -/
def Cur (w : World) (g : Nat) (S : Src) (K : Nat) : Prop :=
  S.ok w ∧ (0 < S.n → ∀ b off, S.A = some ⟨b, off, none⟩ → b < g) ∧ ∃ (t : Nat) (s : Int), t ≤ K ∧ Blk w g 37 #[.slice S.A S.n S.c, .int .i64 t, .int .u64 s]
theorem Rd.keepAt {w w' : World} {size n : Nat} {A : Option Addr} {xs : List Value} (h : Rd w size A n xs) (hk : ∀ b off, 0 < n → A = some ⟨b, off, none⟩ → b < w.heap.size → w'.heap[b]? = w.heap[b]?) : Rd w' size A n xs := by
  refine ⟨h.1, fun hn => ?_⟩
  obtain ⟨b, off, e, hc⟩ := h.2 hn
  refine ⟨b, off, e, fun j u hu => ?_⟩
  have h1 := hc j u hu
  exact (World.cell?_of_block (a := ⟨b, off + j, none⟩) (hk b off hn e (World.block_lt_of_cell? w _ h1))).trans h1
section
variable {w w' : World} {g : Nat} {S : Src} {K : Nat}
theorem Src.ok.below (h : S.ok w) (hb : Below w.heap.size w w') : S.ok w' := ⟨h.1.below hb, h.2.1, h.2.2⟩
theorem Cur.more {K' : Nat} (h : Cur w g S K) (hk : K ≤ K') : Cur w g S K' := by
  obtain ⟨h1, h2, t, s, ht, hb⟩ := h
  exact ⟨h1, h2, t, s, by omega, hb⟩
theorem Cur.lt (h : Cur w g S K) : g < w.heap.size := by
  obtain ⟨_, _, _, _, _, hb⟩ := h
  exact hb.lt
theorem Cur.other {row : Option Nat} (h : Cur w g S K) (hb : w.grownBy w' row) (hr : ∀ k, row = some k → g < k) : Cur w' g S K := by
  have hl := h.lt
  obtain ⟨h1, h2, t, s, ht, hk⟩ := h
  refine ⟨⟨h1.1.keepAt fun b off hn e hlt => hb.block b hlt ?_, h1.2.1, h1.2.2⟩, h2, t, s, ht, hk.grown hb ?_⟩
  · intro e'
    have := hr b e'.symm
    have := h2 hn b off e
    omega
  · intro e'
    have := hr g e'.symm
    omega
theorem Cur.below (h : Cur w g S K) (hb : Below w.heap.size w w') : Cur w' g S K := h.other (only_of_below hb none) (fun _ e => by cases e)
theorem Cur.drewN (h : Cur w g S K) (m : Nat) : Cur (w.drewN m) g S K := h
theorem Cur.drew (h : Cur w g S K) : Cur w.drew g S K := h
theorem Cur.alloc (h : Cur w g S K) (o : Obj) : Cur (w.alloc o) g S K := h.below ((Below.refl _ _).alloc (Nat.le_refl _) o)
theorem Cur.far (h : Cur w g S K) {p : Addr} (hp : g < p.block) (u : Value) : Cur (w.setCell p u) g S K :=
  h.other (only_setCell (World.grownBy.refl w (some p.block)) (.inl rfl) u) (fun k e => by injection e with e; omega)
theorem Cur.new (h : S.ok w) : Cur (w.alloc (.cells #[.slice S.A S.n S.c, .int .i64 0, .int .u64 0] 37)) w.heap.size S 0 := by
  refine ⟨h.below ((Below.refl _ _).alloc (Nat.le_refl _) _), fun hn b off e => ?_, 0, 0, Nat.le_refl _, Blk.new w _ _⟩
  obtain ⟨b', off', e', hc⟩ := h.1.2 hn
  rw [e] at e'
  injection e' with e'
  injection e' with e1 e2
  subst e1 e2
  have hl := h.1.1
  simp at hl
  have hx : (S.zs.map (Value.int .u8))[0]? = some (.int .u8 (S.zs[0]'(by omega))) := by rw [List.getElem?_map, List.getElem?_eq_getElem (by omega)]; rfl
  exact World.block_lt_of_cell? w _ (hc 0 _ hx)
end
theorem and255 (x : Int) : 0 ≤ bits .and .u64 x 255 ∧ bits .and .u64 x 255 ≤ 255 := by
  have h : bits .and .u64 x 255 = IntKind.u64.wrap ((BitVec.ofInt 64 x &&& BitVec.ofInt 64 255).toNat : Int) := rfl
  rw [h, BitVec.toNat_and]
  have h2 : (BitVec.ofInt 64 x).toNat &&& (BitVec.ofInt 64 255).toNat ≤ 255 := by
    refine Nat.le_trans (Nat.and_le_right) ?_
    decide
  generalize (BitVec.ofInt 64 x).toNat &&& (BitVec.ofInt 64 255).toNat = m at h2
  simp only [IntKind.wrap, IntKind.signed, IntKind.bits]
  simp
  omega

theorem w255 (x : Int) : 0 ≤ wrap64 (bits .and .u64 x 255) ∧ wrap64 (bits .and .u64 x 255) ≤ 255 := by
  have := and255 x
  rw [show wrap64 (bits .and .u64 x 255) = bits .and .u64 x 255 from IntWalk.wrap64_in _ (by omega)]
  exact this
/-- A number that was drawn, and what became of the world. -/
def Drew (w : World) (g : Nat) (S : Src) (K : Nat) (P : Int → Prop) (e : Ending) (w' : World) : Prop :=
  ∃ r : Int, P r ∧ e = .returned (.int .i64 r) ∧ Cur w' g S K ∧ w.grownBy w' (some g)
theorem Drew.mk {w w' : World} {g : Nat} {S : Src} {K : Nat} {P : Int → Prop} {r r' : Int} (hP : P r) (hr : r' = r) (hC : Cur w' g S K) (hG : w.grownBy w' (some g)) : Drew w g S K P (.returned (.int .i64 r')) w' := ⟨r, hP, by rw [hr], hC, hG⟩
theorem only_set {a w : World} {g : Nat} (h : a.grownBy w (some g)) (i : Nat) (u : Value) : a.grownBy (w.setCell ⟨g, i, none⟩ u) (some g) := only_setCell h (.inl rfl) u
theorem Cur.stepped {w : World} {g : Nat} {S : Src} {K t : Nat} {s : Int} (h1 : S.ok w) (h2 : 0 < S.n → ∀ b off, S.A = some ⟨b, off, none⟩ → b < g)
    (hB : Blk w g 37 #[.slice S.A S.n S.c, .int .i64 t, .int .u64 s]) (ht : t ≤ K) (m : Nat) (s' : Int) :
    Cur (((w.drewN m).setCell ⟨g, 1, none⟩ (.int .i64 ((t : Int) + 1))).setCell ⟨g, 2, none⟩ (.int .u64 s')) g S (K + 1) ∧ w.grownBy (((w.drewN m).setCell ⟨g, 1, none⟩ (.int .i64 ((t : Int) + 1))).setCell ⟨g, 2, none⟩ (.int .u64 s')) (some g) := by
  have hg : w.grownBy (((w.drewN m).setCell ⟨g, 1, none⟩ (.int .i64 ((t : Int) + 1))).setCell ⟨g, 2, none⟩ (.int .u64 s')) (some g) := only_set (only_set (only_drewN (World.grownBy.refl w _) m) 1 _) 2 _
  refine ⟨⟨⟨h1.1.keepAt fun b off hn e hlt => hg.block b hlt ?_, h1.2.1, h1.2.2⟩, h2, t + 1, s', by omega, ?_⟩, hg⟩
  · intro e'
    injection e' with e'
    have := h2 hn b off e
    omega
  · have := ((hB.drewN m).set_ 1 (.int .i64 ((t : Int) + 1))).set_ 2 (.int .u64 s')
    simpa using this
set_option maxHeartbeats 2000000 in
theorem cur_next (w : World) (g : Nat) (S : Src) (K : Nat) (h : Cur w g S K) (hK : K ≤ 1000000) :
    Calls Tryd.prog 22 #[.pointer (some ⟨g, 0, none⟩)] w (Drew w g S (K + 1) fun r => 0 ≤ r ∧ r ≤ 255) := by
  obtain ⟨h1, h2, t, s, ht, hb⟩ := h
  have HS := fun m s' => Lib.hid (Cur.stepped h1 h2 hb ht m s')
  obtain ⟨A, n, c, zs⟩ := S
  have c0 := hb.cell 0
  have c1 := hb.cell 1
  have c2 := hb.cell 2
  have f0 := hb.frozen 0
  have f1 := hb.frozen 1
  have f2 := hb.frozen 2
  simp at c0 c1 c2
  have hz : g < w.heap.size := hb.lt
  obtain ⟨h1, h3, h4⟩ := h1
  simp only at h1 h3 h4 h2
  have hl := h1.1
  simp at hl
  have HL := Lib.hid hl
  have HSS := Lib.hid HS
  clear hl hb HS
  have r3 := fun (x : Int) => (w255 x).1
  have r4 := fun (x : Int) => (w255 x).2
  have R3 := Lib.hid r3
  have R4 := Lib.hid r4
  clear r3 r4
  by_cases hlt : t < n
  · obtain ⟨b, off, rfl, hc⟩ := h1.2 (by omega)
    obtain ⟨x, hx⟩ : ∃ x, zs[t]? = some x := ⟨_, List.getElem?_eq_getElem (by rw [HL.out]; exact hlt)⟩
    have hcx := hc t (.int .u8 x) (by simp [hx])
    have hxx := h3 x (List.mem_of_getElem? hx)
    have hx1 : 0 ≤ x := hxx.1
    have hx2 : x ≤ 255 := hxx.2
    have H2 := Lib.hid h2
    clear hc hx hxx h2 h3
    go_enter Tryd.func22, Tryd.ntmps22
    go_wp2_with fail
    go_quiet (fail)
    go_wp2_with fail
    go_quiet (fail)
    go_wp2_with fail
    go_quiet (fail)
    go_wp2_with fail
    go_ret
    exact Drew.mk ⟨hx1, hx2⟩ rfl ((HSS.out _ _).out.1.drewN _) (only_drewN (HSS.out _ _).out.2 _)
  · have H2 := Lib.hid h2
    clear h2 h3
    go_enter Tryd.func22, Tryd.ntmps22
    go_wp2_with fail
    go_quiet (fail)
    go_wp2_with fail
    go_quiet (fail)
    go_wp2_with fail
    go_ret
    exact Drew.mk ⟨R3.out _, R4.out _⟩ rfl ((HSS.out _ _).out.1.drewN _) (only_drewN (HSS.out _ _).out.2 _)
theorem cur_pick1 (w : World) (g : Nat) (S : Src) (K : Nat) (m : Int) (h : Cur w g S K) (h1 : m ≤ 1) :
    Calls Tryd.prog 16 #[.pointer (some ⟨g, 0, none⟩), .int .i64 m] w (Drew w g S K fun r => r = 0) := by
  go_enter Tryd.func16, Tryd.ntmps16
  go_wp2_with fail
  go_ret
  exact Drew.mk rfl rfl h (World.grownBy.refl w _)
set_option maxHeartbeats 1000000 in
theorem cur_pick (w : World) (g : Nat) (S : Src) (K : Nat) (m : Int) (h : Cur w g S K) (hK : K ≤ 900000) (h0 : 1 ≤ m) (h1 : m ≤ 65536) :
    Calls Tryd.prog 16 #[.pointer (some ⟨g, 0, none⟩), .int .i64 m] w (Drew w g S (K + 2) fun r => 0 ≤ r ∧ r < m) := by
  rcases Decidable.em (m ≤ 1) with hm | hm
  · refine (cur_pick1 w g S K m h hm).mono ?_
    rintro e w' ⟨r, rfl, he, hC, hG⟩
    exact ⟨0, ⟨by omega, by omega⟩, he, hC.more (by omega), hG⟩
  have H := Lib.hid h
  have hm' : 1 < m := by omega
  clear h
  by_cases hb : 200 < m
  · go_enter Tryd.func16, Tryd.ntmps16
    go_wp2_with (first | (go_at_call 22; (with_reducible refine (cur_next w _ S K H.out (by omega)).mono ?_); rintro e w1 ⟨x, ⟨hx0, hx1⟩, rfl, hC, hG⟩; have HC := Lib.hid hC; have HG := Lib.hid hG; clear hC hG) | (go_at_call 22; (with_reducible refine (cur_next w1 _ S (K + 1) HC.out (by omega)).mono ?_); rintro e w2 ⟨y, ⟨hy0, hy1⟩, rfl, hC2, hG2⟩; have HC2 := Lib.hid hC2; have HG2 := Lib.hid hG2; clear hC2 hG2))
    go_ret
    exact Drew.mk ⟨Int.emod_nonneg _ (by omega), Int.emod_lt_of_pos _ (by omega)⟩ rfl HC2.out (only_trans HG.out HG2.out)
  · go_enter Tryd.func16, Tryd.ntmps16
    go_wp2_with (go_at_call 22; (with_reducible refine (cur_next w _ S K H.out (by omega)).mono ?_); rintro e w1 ⟨x, ⟨hx0, hx1⟩, rfl, hC, hG⟩; have HC := Lib.hid hC; have HG := Lib.hid hG; clear hC hG)
    go_ret
    exact Drew.mk ⟨Int.emod_nonneg _ (by omega), Int.emod_lt_of_pos _ (by omega)⟩ rfl (HC.out.more (by omega)) HG.out
theorem among_cell {wa w1 : World} {g q n : Nat} {cs : Array Value} {ys : List Int} {x : Int} (hB : Blk wa q 3 cs) (hG : wa.grownBy w1 (some g)) (hne : q ≠ g) (hcs : cs = (IV ys).toArray) (hx0 : 0 ≤ x) (hx1 : x < (n : Int)) (hn : ys.length = n) :
    ∃ y, ys[x.toNat]? = some y ∧ w1.cell? ⟨q, x.toNat, none⟩ = some (.int .i64 y) := by
  have hlt : x.toNat < ys.length := by omega
  refine ⟨_, List.getElem?_eq_getElem hlt, ?_⟩
  rw [(hB.grown hG (by intro e; injection e with e; exact hne e)).cell, hcs]
  simp [hlt]
/-- A truth that was drawn. -/
def DrewB (w : World) (g : Nat) (S : Src) (K : Nat) (e : Ending) (w' : World) : Prop := ∃ b : Bool, e = .returned (.bool b) ∧ Cur w' g S K ∧ w.grownBy w' (some g)
/-- Numbers that were drawn. -/
def DrewS (w : World) (g : Nat) (S : Src) (K m : Nat) (e : Ending) (w' : World) : Prop :=
  ∃ A c zs, e = .returned (.slice A zs.length c) ∧ zs.length ≤ m ∧ Ow w' w.heap.size (.slice A zs.length c) zs ∧ Cur w' g S K ∧ w.grownBy w' (some g)
theorem DrewS.mk {w w' : World} {g : Nat} {S : Src} {K m : Nat} {A : Option Addr} {n c : Nat} {zs : List Int} (hn : n ≤ m) (ho : Ow w' w.heap.size (.slice A n c) zs) (hC : Cur w' g S K) (hG : w.grownBy w' (some g)) : DrewS w g S K m (.returned (.slice A n c)) w' := by
  obtain rfl := ho.len
  exact ⟨A, c, zs, rfl, hn, ho, hC, hG⟩
theorem Ow.gen {w w' : World} {B : Nat} {v : Value} {zs : List Int} {g : Nat} (h : Ow w B v zs) (hg : w.grownBy w' (some g)) (hB : g < B) : Ow w' B v zs := h.other hg (fun k hk => by injection hk with hk; omega)
theorem grown_below {a b c : World} {row : Option Nat} (h : a.grownBy b row) (k : Below a.heap.size b c) : a.grownBy c row :=
  ⟨k.os.trans h.os, k.tape.trans h.tape, k.output.trans h.output, Nat.le_trans h.size k.size, fun i hi hn => (k.block i hi).trans (h.block i hi hn)⟩
theorem Cur.belowB {w w' : World} {g : Nat} {S : Src} {K B : Nat} (h : Cur w g S K) (hb : Below B w w') (hg : g < B) : Cur w' g S K := by
  obtain ⟨h1, h2, t, s, ht, hk⟩ := h
  refine ⟨⟨h1.1.keepAt fun b off hn e hlt => hb.block b ?_, h1.2.1, h1.2.2⟩, h2, t, s, ht, hk.below hb hg⟩
  have := h2 hn b off e
  omega
theorem cell_grown {w w' : World} {row : Option Nat} {b o : Nat} {u : Value} (hG : w.grownBy w' row) (hc : w.cell? ⟨b, o, none⟩ = some u) (hne : some b ≠ row) : w'.cell? ⟨b, o, none⟩ = some u :=
  (World.cell?_of_block (a := ⟨b, o, none⟩) (hG.block b (World.block_lt_of_cell? w _ hc) hne)).trans hc
/-- What was new to a call that made the generator is new to the caller. -/
theorem below_gen {w w' : World} {o : Obj} (h : (w.alloc o).grownBy w' (some w.heap.size)) : Below w.heap.size w w' :=
  ((Below.refl _ w).alloc (Nat.le_refl _) o).grown h (by simp) (fun k hk => by injection hk with hk; omega)
theorem cur_one (w : World) (g : Nat) (S : Src) (K : Nat) (m : Int) (h : Cur w g S K) (hK : K ≤ 900000) (h0 : 1 ≤ m) (h1 : m ≤ 65536) :
    Calls Tryd.prog 17 #[.pointer (some ⟨g, 0, none⟩), .int .i64 m] w (DrewB w g S (K + 2)) := by
  have H := Lib.hid h
  clear h
  go_enter Tryd.func17, Tryd.ntmps17
  go_wp2_with (go_at_call 16; (with_reducible refine (cur_pick w _ S (K) (m) (H.out) (by omega) (by omega) (by omega)).mono ?_); rintro e w1 ⟨r, ⟨r0, r1⟩, rfl, hC, hG⟩; have Cw1 := Lib.hid hC; have Gw1 := Lib.hid hG; have Zw1 := hG.size; clear hC hG)
  go_ret
  exact ⟨_, rfl, Cw1.out, Gw1.out⟩
end Go.Proofs.YtjfmicemnoglkaaDoor
