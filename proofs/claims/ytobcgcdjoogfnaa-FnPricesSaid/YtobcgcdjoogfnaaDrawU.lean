/- Days and lists of tickets that are drawn. -/
import Derived.Test.YtobcgcdjoogfnaaDrawT
import Derived.Test.YtobcgcdjoogfnaaFlTicketC
namespace Go.Proofs.Ytobcgcdjoogfnaa
open Go.RowKit
set_option linter.unusedVariables false
set_option linter.unusedSimpArgs false

theorem rd_new (w : World) (ys : List Int) (cs : Array Value) (q n : Nat) (hq : q = w.heap.size) (hcs : cs = (IV ys).toArray) (hn : ys.length = n) : Rd (w.alloc (.cells cs 3)) 1 (some ⟨q, 0, none⟩) n (IV ys) := by
  subst hq hcs hn
  have := Rd.of_block (n := ys.length) (size := 1) (heap_alloc_new w (.cells (IV ys).toArray 3)) (by simp)
  simpa using this
theorem rd_cut {w w1 : World} {ys : List Int} {cs : Array Value} {g n k : Nat} (hG : (w.alloc (.cells cs 3)).grownBy w1 (some g)) (hg : g < w.heap.size) (hcs : cs = (IV ys).toArray) (hn : ys.length = n) (hk : k ≤ n) : Rd w1 1 (some ⟨w.heap.size, 0, none⟩) k (IV (ys.take k)) := by
  have h1 := (rd_new w ys cs w.heap.size n rfl hcs hn).only hG (by intro b off e; injection e with e; injection e with e1 e2; omega)
  have h2 := h1.take hk
  simpa [List.map_take] using h2
set_option maxHeartbeats 1000000 in
theorem cur_day11 (w : World) (g : Nat) (S : Src) (K : Nat) (h : Cur w g S K) (hK : K ≤ 800000) :
    Calls Try.prog 79 #[.pointer (some ⟨g, 0, none⟩)] w (Drew w g S (K + 4) fun r => -1 ≤ r ∧ r ≤ 1000) := by
  have H := Lib.hid h
  have hg := h.lt
  clear h
  go_enter Try.func79, Try.ntmps79
  go_wp2_with ((go_at_call 77; (with_reducible refine (cur_pick _ _ S (K) (24) (H.out.alloc _) (by omega) (by omega) (by omega)).mono ?_); rintro e w1 ⟨r, ⟨r0, r1⟩, rfl, hC, hG⟩; have Cw1 := Lib.hid hC; have Gw1 := Lib.hid hG; have Zw1 := hG.size; clear hC hG); obtain ⟨j, rfl⟩ := Int.eq_ofNat_of_zero_le r0)
  refine (cur_amongW w1 _ S (K + 2) ([0, 10, 10, 11, 12, 374, 375, 999, -1, 1000].take (8 + j / 11)) (fun r => -1 ≤ r ∧ r ≤ 1000) _ _ _ Cw1.out (by omega) (rd_cut (n := 10) Gw1.out hg rfl rfl (by omega)) (by intro b off e; injection e with e; injection e with e1 e2; omega) (by omega) (by omega) (fun y hy => (show ∀ y ∈ ([0, 10, 10, 11, 12, 374, 375, 999, -1, 1000] : List Int), -1 ≤ y ∧ y ≤ 1000 from by decide) y (List.mem_of_mem_take hy))).mono ?_
  rintro e w2 ⟨q, hq, rfl, hC, hG⟩
  have HC := Lib.hid hC
  have HG := Lib.hid hG
  clear hC hG
  go_wp2_with fail
  go_ret
  exact Drew.mk hq rfl HC.out (only_trans (only_trans (only_alloc (World.grownBy.refl w _) _) Gw1.out) HG.out)
/-- Tickets that were drawn. -/
def DrewR (w : World) (g : Nat) (S : Src) (K m : Nat) (e : Ending) (w' : World) : Prop :=
  ∃ A c rows, e = .returned (.slice A rows.length c) ∧ rows.length ≤ m ∧ OwR w' w.heap.size 25 5 (.slice A rows.length c) rows ∧ Cur w' g S K ∧ w.grownBy w' (some g)
theorem OwR.gen {w w' : World} {B : Nat} {t : TypeId} {F : Nat} {v : Value} {rows : List (List Int)} {g : Nat} (h : OwR w B t F v rows) (hg : w.grownBy w' (some g)) (hB : g < B) : OwR w' B t F v rows := h.other hg (fun k hk => by injection hk with hk; omega)
theorem OwR.len_ {w : World} {B : Nat} {t : TypeId} {F : Nat} {A : Option Addr} {n c : Nat} {rows : List (List Int)} (h : OwR w B t F (.slice A n c) rows) : rows.length = n := by
  obtain ⟨A', c', e, _⟩ := h.1.shape
  injection e with e1 e2 e3
  exact e2.symm
theorem DrewR.mk {w w' : World} {g : Nat} {S : Src} {K m : Nat} {A : Option Addr} {n c : Nat} {rows : List (List Int)} (hn : n ≤ m) (ho : OwR w' w.heap.size 25 5 (.slice A n c) rows) (hC : Cur w' g S K) (hG : w.grownBy w' (some g)) : DrewR w g S K m (.returned (.slice A n c)) w' := by
  obtain rfl := ho.len_
  exact ⟨A, c, rows, rfl, hn, ho, hC, hG⟩
/-- 'append(out, t)' of one ticket: the walk has just laid t in a block of its own. -/
theorem wp_app_Ticket1 {ops : Array Oper} {rest : List Oper} {o : Oper} {a : Act} {Q : Exit → Act → World → Prop} (hgd : o.guard = none) (s x : Operand)
    (ho : o.op = .call { callee := .builtin .append, args := #[s, x], argTypes := #[47, 47] }) (w : World) (B : Nat) (v : Value) (rows : List (List Int)) (x0 x1 x2 x3 x4 : Int)
    (hs : a.eval s = v) (hown : OwR w B 25 5 v rows) (hx : a.eval x = .slice (some ⟨w.heap.size, 0, none⟩) 1 1) (m : Nat) (hm : rows.length = m) (hl : m < 1000000) (hB : B ≤ w.heap.size)
    (h : ∀ A' c' w', OwR w' B 25 5 (.slice A' (m + 1) c') (rows ++ [[x0, x1, x2, x3, x4]]) → Below B w w' → wpList Try.prog ops Q rest (a.put o.dst (.slice A' (m + 1) c')) w') :
    wpList Try.prog ops Q (o :: rest) a (w.alloc (.cells #[.int .i64 x0, .int .i64 x1, .int .i64 x2, .int .i64 x3, .int .i64 x4] 25)) := by
  subst hm
  refine wp_app_TicketS hgd s x ho _ B v rows hs ⟨hown.1.alloc _, hown.2⟩ _ 1 1 [[x0, x1, x2, x3, x4]] hx (RdR.one_Ticket x0 x1 x2 x3 x4 w) (by omega) (Nat.le_trans hB (by simp)) ?_
  intro A' c' w' ho' hb
  have e : (rows ++ [[x0, x1, x2, x3, x4]]).length = rows.length + 1 := by simp
  rw [e] at ho' ⊢
  exact h A' c' w' ho' (((Below.refl B w).alloc hB _).trans hb)
set_option maxRecDepth 100000 in
set_option maxHeartbeats 4000000 in
theorem cur_tickets (w : World) (g : Nat) (S : Src) (K : Nat) (h : Cur w g S K) (hK : K ≤ 700000) :
    Calls Try.prog 78 #[.pointer (some ⟨g, 0, none⟩)] w (DrewR w g S (K + 3000) 20) := by
  have H := Lib.hid h
  have hg := h.lt
  clear h
  go_enter Try.func78, Try.ntmps78
  go_wp2_with (go_at_call 77; (with_reducible refine (cur_pick _ _ S (K) (9) (H.out.alloc _) (by omega) (by omega) (by omega)).mono ?_); rintro e w1 ⟨n0, ⟨n00, n01⟩, rfl, hC, hG⟩; have Cw1 := Lib.hid hC; have Gw1 := Lib.hid hG; have Zw1 := hG.size; clear hC hG)
  obtain ⟨j0, rfl⟩ := Int.eq_ofNat_of_zero_le n00
  have O1 : Hid (OwR w1 w.heap.size 25 5 (.slice (some ⟨w.heap.size, 0, none⟩) 0 0) []) := (OwR.lit0 w w.heap.size 25 5 (Nat.le_refl _)).gen Gw1.out hg
  have A1 : Hid (Cur w1 g S (K + 2) ∧ w.grownBy w1 (some g)) := ⟨Cw1.out, only_trans (only_alloc (World.grownBy.refl w _) _) Gw1.out⟩
  go_loopg [3, 4, 5] 9 (fun gg out nu i wr => ∃ (k m : Nat) (x : Int) (A : Option Addr) (c : Nat) (rows : List (List Int)), k ≤ gg ∧ k ≤ 8 ∧ i = .int .i64 k ∧ nu = .int .i64 x ∧ -100 ≤ x ∧ x ≤ 4 * (m : Int) ∧ out = .slice A m c ∧ m + k ≤ 8 ∧ -1 * (m : Int) ≤ x ∧ Hid (OwR wr w.heap.size 25 5 (.slice A m c) rows) ∧ Hid (Cur wr g S (K + 2 + 200 * m) ∧ w.grownBy wr (some g)))
  case atStart => exact ⟨j0, 0, 0, _, _, [], by omega, by omega, rfl, rfl, by omega, by omega, rfl, by omega, by omega, O1, ⟨A1.out.1, A1.out.2⟩⟩
  case round =>
    obtain ⟨k, m, x, A, c, rows, hk1, hk2, rfl, rfl, hx1, hx2, rfl, hmk, hx3, HO, HC⟩ := hrel
    have hsz := HC.out.2.size
    have HL := Lib.hid HO.out.len_
    rcases Nat.eq_zero_or_pos k with h0 | h0
    · subst h0
      go_wp2_with ((go_at_call 81; (with_reducible refine (cur_one wr _ S (K + 2 + 200 * m) (24) (HC.out.1) (by omega) (by omega) (by omega)).mono ?_); rintro e w2 ⟨t, rfl, hC, hG⟩; have Cw2 := Lib.hid hC; have Gw2 := Lib.hid hG; have Zw2 := hG.size; clear hC hG); have O2 := Lib.hid (HO.out.gen Gw2.out hg); have G2 := Lib.hid (only_trans HC.out.2 Gw2.out))
      · have e0 : t = true := by assumption
        subst e0
        go_loopg [3, 4] 20 (fun gg out nu wr => ∃ (m : Nat) (x : Int) (A : Option Addr) (c : Nat) (rows : List (List Int)), nu = .int .i64 x ∧ -100 ≤ x ∧ x ≤ 100 + (m : Int) ∧ out = .slice A m c ∧ m ≤ 13 ∧ 13 ≤ m + gg ∧ Hid (OwR wr w.heap.size 25 5 (.slice A m c) rows) ∧ Hid (Cur wr g S (K + 2000 + 2 * m) ∧ w.grownBy wr (some g)))
        case atStart => exact ⟨m, x, A, c, rows, rfl, by omega, by omega, rfl, by omega, by omega, O2, ⟨Cw2.out.more (by omega), G2.out⟩⟩
        case round =>
          obtain ⟨m', x', A', c', rows', rfl, hy1, hy2, rfl, hm1, hm2, HO', HC'⟩ := hrel
          have HL' := Lib.hid HO'.out.len_
          go_wp2_with (first | ((go_at_call 77; (with_reducible refine (cur_pick wr _ S (K + 2000 + 2 * m') (2) (HC'.out.1) (by omega) (by omega) (by omega)).mono ?_); rintro e w4 ⟨b, ⟨b0, b1⟩, rfl, hC, hG⟩; have Cw4 := Lib.hid hC; have Gw4 := Lib.hid hG; have Zw4 := hG.size; clear hC hG); have O4 := Lib.hid (HO'.out.gen Gw4.out hg); have G4 := Lib.hid (only_trans HC'.out.2 Gw4.out); have hz4 := G4.out.size) | (at_builtin; refine wp_app_Ticket1 rfl (.tmp 38) (.tmp 41) rfl w4 w.heap.size (.slice A' m' c') rows' (x' + 1) 2 10 1 0 rfl O4.out rfl m' HL'.out (by omega) hz4 ?_; intro A5 c5 w5 ho5 hb5; have O5 := Lib.hid ho5; have HB5 := Lib.hid hb5; clear ho5 hb5))
          · go_roundg (13 - (m' + 1))
            case measure => omega
            case rel => exact ⟨m' + 1, x' + 1, A5, c5, _, rfl, by omega, by omega, rfl, by omega, by omega, O5, ⟨(Cw4.out.belowB HB5.out hg).more (by omega), grown_below G4.out HB5.out⟩⟩
          · go_wp2_with fail
            go_ret
            exact DrewR.mk (by omega) O4.out (Cw4.out.more (by omega)) G4.out
      · go_ret
        exact DrewR.mk (by omega) O2.out (Cw2.out.more (by omega)) G2.out
    · obtain ⟨j, rfl⟩ : ∃ j, k = j + 1 := ⟨k - 1, by omega⟩
      go_wp2_with (first | (go_at_call 77; (with_reducible refine (cur_pick wr _ S (K + 2 + 200 * m) (3) (HC.out.1) (by omega) (by omega) (by omega)).mono ?_); rintro e w2 ⟨a, ⟨a0, a1⟩, rfl, hC, hG⟩; have Cw2 := Lib.hid hC; have Gw2 := Lib.hid hG; have Zw2 := hG.size; clear hC hG) | (go_at_call 77; (with_reducible refine (cur_pick w2 _ S (K + 2 + 200 * m + 2) (80) (Cw2.out) (by omega) (by omega) (by omega)).mono ?_); rintro e w3 ⟨b, ⟨b0, b1⟩, rfl, hC, hG⟩; have Cw3 := Lib.hid hC; have Gw3 := Lib.hid hG; have Zw3 := hG.size; clear hC hG) | (go_at_call 82; refine (cur_ticket w3 _ S (K + 2 + 200 * m + 2 + 2) _ Cw3.out (by omega)).mono ?_; rintro e w4 ⟨x0, x1, x2, x3, x4, rfl, hC, hG⟩; have C4 := Lib.hid hC; have G4 := Lib.hid (only_trans (only_trans (only_trans HC.out.2 Gw2.out) Gw3.out) hG); have O4 := Lib.hid (((HO.out.gen Gw2.out hg).gen Gw3.out hg).gen hG hg); have hz4 := G4.out.size; clear hC hG) | (at_builtin; refine wp_app_Ticket1 rfl (.tmp 22) (.tmp 26) rfl w4 w.heap.size (.slice A m c) rows x0 x1 x2 x3 x4 rfl O4.out rfl m HL.out (by omega) hz4 ?_; intro A5 c5 w5 ho5 hb5; have O5 := Lib.hid ho5; have HB5 := Lib.hid hb5; clear ho5 hb5))
      go_roundg j
      case measure => omega
      case rel => exact ⟨j, m + 1, _, A5, c5, _, by omega, by omega, by go_num, rfl, by omega, by omega, rfl, by omega, by omega, O5, ⟨(C4.out.belowB HB5.out hg).more (by omega), grown_below G4.out HB5.out⟩⟩
end Go.Proofs.Ytobcgcdjoogfnaa
