/- Lengths, lists of kinds of ropes that are drawn. -/
import Derived.Test.YtjfmicemnoglkaaRpL
import Derived.Test.YtjfmicemnoglkaaDrwK
namespace Go.Proofs.Ytjfmicemnoglkaa
open Go.RowKit
set_option linter.unusedVariables false
set_option linter.unusedSimpArgs false

theorem rd_new (w : World) (ys : List Int) (cs : Array Value) (q n : Nat) (hq : q = w.heap.size) (hcs : cs = (IV ys).toArray) (hn : ys.length = n) : Rd (w.alloc (.cells cs 3)) 1 (some ⟨q, 0, none⟩) n (IV ys) := by
  subst hq hcs hn
  have := Rd.of_block (n := ys.length) (size := 1) (heap_alloc_new w (.cells (IV ys).toArray 3)) (by simp)
  simpa using this
theorem rd_cut {w w1 : World} {ys : List Int} {cs : Array Value} {g n k : Nat} (hG : (w.alloc (.cells cs 3)).grownBy w1 (some g)) (hg : g < w.heap.size) (hcs : cs = (IV ys).toArray) (hn : ys.length = n) (hk : k ≤ n) : Rd w1 1 (some ⟨w.heap.size, 0, none⟩) k (IV (ys.take k)) := by
  have h1 := (rd_new w ys cs w.heap.size n rfl hcs hn).only hG (by intro b off e; injection e with e; injection e with e1 e2; omega)
  have h2 := h1.take hk
  simpa [List.map_take] using h2
set_option maxHeartbeats 1000000 in
theorem cur_length3 (w : World) (g : Nat) (S : Src) (K : Nat) (h : Cur w g S K) (hK : K ≤ 800000) :
    Calls Try.prog 137 #[.pointer (some ⟨g, 0, none⟩)] w (Drew w g S (K + 4) fun r => True) := by
  have H := Lib.hid h
  have hg := h.lt
  clear h
  go_enter Try.func137, Try.ntmps137
  go_wp2_with ((go_at_call 125; (with_reducible refine (cur_pick _ _ S (K) (24) (H.out.alloc _) (by omega) (by omega) (by omega)).mono ?_); rintro e w1 ⟨r, ⟨r0, r1⟩, rfl, hC, hG⟩; have Cw1 := Lib.hid hC; have Gw1 := Lib.hid hG; have Zw1 := hG.size; clear hC hG); obtain ⟨j, rfl⟩ := Int.eq_ofNat_of_zero_le r0)
  refine (cur_amongW w1 _ S (K + 2) ([1, 5, 10, 100, 3000, 0, 3001].take (5 + j / 11)) (fun r => True) _ _ _ Cw1.out (by omega) (rd_cut (n := 7) Gw1.out hg rfl rfl (by omega)) (by intro b off e; injection e with e; injection e with e1 e2; omega) (by omega) (by omega) (fun y hy => trivial)).mono ?_
  rintro e w2 ⟨q, hq, rfl, hC, hG⟩
  have HC := Lib.hid hC
  have HG := Lib.hid hG
  clear hC hG
  go_wp2_with fail
  go_ret
  exact Drew.mk hq rfl HC.out (only_trans (only_trans (only_alloc (World.grownBy.refl w _) _) Gw1.out) HG.out)
theorem grown_belowV {v w1 w2 : World} {g B : Nat} (h : v.grownBy w1 (some g)) (hb : Below B w1 w2) (hB : v.heap.size = B) : v.grownBy w2 (some g) := by subst hB; exact grown_below h hb
def GenKs (w : World) (e : Ending) (w' : World) : Prop := ∃ A c rows, e = .returned (.slice A rows.length c) ∧ rows.length ≤ 20 ∧ OwR w' w.heap.size 85 5 (.slice A rows.length c) rows ∧ Below w.heap.size w w'
theorem GenKs.mk {w w' : World} {A : Option Addr} {n c : Nat} {rows : List (List Int)} (hn : n ≤ 20) (ho : OwR w' (w.heap.size + 1) 85 5 (.slice A n c) rows) (hb : Below w.heap.size w w') : GenKs w (.returned (.slice A n c)) w' := by
  obtain rfl := ho.len_
  exact ⟨A, c, rows, rfl, hn, ho.base (Nat.le_succ _), hb⟩
set_option maxRecDepth 100000 in
set_option maxHeartbeats 4000000 in
theorem draw_AreRopeKinds (w : World) (S : Src) (h : S.ok w) : Calls Try.prog 146 #[.slice S.A S.n S.c] w (GenKs w) := by
  have H := Lib.hid (Cur.new h)
  have HB : Hid (Below w.heap.size w (w.alloc (.cells #[.slice S.A S.n S.c, .int .i64 0, .int .u64 0] 106))) := Lib.hid ((Below.refl _ _).alloc (Nat.le_refl _) _)
  have hgs : (w.alloc (.cells #[.slice S.A S.n S.c, .int .i64 0, .int .u64 0] 106)).heap.size = w.heap.size + 1 := by simp
  have O0 : Hid (OwR ((w.alloc (.cells #[.slice S.A S.n S.c, .int .i64 0, .int .u64 0] 106)).alloc (.cells #[] 85)) (w.heap.size + 1) 85 5 (.slice (some ⟨w.heap.size + 1, 0, none⟩) 0 0) []) := Lib.hid (by have := OwR.lit0 (w.alloc (.cells #[.slice S.A S.n S.c, .int .i64 0, .int .u64 0] 106)) (w.heap.size + 1) 85 5 (by omega); rw [hgs] at this; exact this)
  clear h
  go_enter Try.func146, Try.ntmps146
  go_wp2_with (go_at_call 125; (with_reducible refine (cur_pick _ _ S (0) (6) (H.out.alloc _) (by omega) (by omega) (by omega)).mono ?_); rintro e w1 ⟨n0, ⟨n00, n01⟩, rfl, hC, hG⟩; have Cw1 := Lib.hid hC; have Gw1 := Lib.hid hG; have Zw1 := hG.size; clear hC hG)
  obtain ⟨j0, rfl⟩ := Int.eq_ofNat_of_zero_le n00
  have hg : w.heap.size < w.heap.size + 1 := Nat.lt_succ_self _
  have O1 := Lib.hid (O0.out.gen Gw1.out hg)
  have A1 : Hid (Cur w1 w.heap.size S 2 ∧ (w.alloc (.cells #[.slice S.A S.n S.c, .int .i64 0, .int .u64 0] 106)).grownBy w1 (some w.heap.size)) := ⟨Cw1.out, only_trans (only_alloc (World.grownBy.refl _ _) _) Gw1.out⟩
  clear H O0 Cw1 Gw1 Zw1
  generalize w.alloc (.cells #[.slice S.A S.n S.c, .int .i64 0, .int .u64 0] 106) = v at *
  have HGS := Lib.hid hgs
  clear hgs
  have HFIN : Hid (∀ w' : World, v.grownBy w' (some w.heap.size) → Below w.heap.size w w') := Lib.hid (fun w' hG => HB.out.grown hG (by have := HGS.out; omega) (fun k hk => by injection hk with hk; omega))
  clear HB
  go_loopg [4, 5, 6] 6 (fun gg out nu i wr => ∃ (k m : Nat) (x : Int) (A : Option Addr) (c : Nat) (rows : List (List Int)), k ≤ gg ∧ k ≤ 5 ∧ i = .int .i64 k ∧ nu = .int .i64 x ∧ -100 ≤ x ∧ x ≤ 4 * (m : Int) ∧ out = .slice A m c ∧ m + k ≤ 5 ∧ -1 * (m : Int) ≤ x ∧ Hid (OwR wr (w.heap.size + 1) 85 5 (.slice A m c) rows) ∧ Hid (Cur wr w.heap.size S (2 + 200 * m) ∧ v.grownBy wr (some w.heap.size)))
  case atStart => exact ⟨j0, 0, 0, _, _, [], by omega, by omega, rfl, rfl, by omega, by omega, rfl, by omega, by omega, O1, ⟨A1.out.1, A1.out.2⟩⟩
  case round =>
    obtain ⟨k, m, x, A, c, rows, hk1, hk2, rfl, rfl, hx1, hx2, rfl, hmk, hx3, HO, HC⟩ := hrel
    have hsz := HC.out.2.size
    have hvs := HGS.out
    have HL := Lib.hid HO.out.len_
    rcases Nat.eq_zero_or_pos k with h0 | h0
    · subst h0
      go_wp2_with ((go_at_call 150; (with_reducible refine (cur_one wr _ S (2 + 200 * m) (24) (HC.out.1) (by omega) (by omega) (by omega)).mono ?_); rintro e w2 ⟨t, rfl, hC, hG⟩; have Cw2 := Lib.hid hC; have Gw2 := Lib.hid hG; have Zw2 := hG.size; clear hC hG); have O2 := Lib.hid (HO.out.gen Gw2.out hg); have G2 := Lib.hid (only_trans HC.out.2 Gw2.out))
      · have e0 : t = true := by assumption
        subst e0
        go_loopg [4, 5] 20 (fun gg out nu wr => ∃ (m : Nat) (x : Int) (A : Option Addr) (c : Nat) (rows : List (List Int)), nu = .int .i64 x ∧ -100 ≤ x ∧ x ≤ 100 + (m : Int) ∧ out = .slice A m c ∧ m ≤ 7 ∧ 7 ≤ m + gg ∧ Hid (OwR wr (w.heap.size + 1) 85 5 (.slice A m c) rows) ∧ Hid (Cur wr w.heap.size S (2000 + 2 * m) ∧ v.grownBy wr (some w.heap.size)))
        case atStart => exact ⟨m, x, A, c, rows, rfl, by omega, by omega, rfl, by omega, by omega, O2, ⟨Cw2.out.more (by omega), G2.out⟩⟩
        case round =>
          obtain ⟨m', x', A', c', rows', rfl, hy1, hy2, rfl, hm1, hm2, HO', HC'⟩ := hrel
          have HL' := Lib.hid HO'.out.len_
          go_wp2_with (first | ((go_at_call 125; (with_reducible refine (cur_pick wr _ S (2000 + 2 * m') (2) (HC'.out.1) (by omega) (by omega) (by omega)).mono ?_); rintro e w4 ⟨b, ⟨b0, b1⟩, rfl, hC, hG⟩; have Cw4 := Lib.hid hC; have Gw4 := Lib.hid hG; have Zw4 := hG.size; clear hC hG); have O4 := Lib.hid (HO'.out.gen Gw4.out hg); have G4 := Lib.hid (only_trans HC'.out.2 Gw4.out); have hz4 : w.heap.size + 1 ≤ w4.heap.size := (by have := G4.out.size; omega)) | (at_builtin; refine wp_app_RopeKind1 rfl (.tmp 42) (.tmp 45) rfl w4 (w.heap.size + 1) (.slice A' m' c') rows' (x' + 1) 6 19 40 700 rfl O4.out rfl m' HL'.out (by omega) hz4 ?_; intro A5 c5 w5 ho5 hb5; have O5 := Lib.hid ho5; have HB5 := Lib.hid hb5; clear ho5 hb5))
          · go_roundg (7 - (m' + 1))
            case measure => omega
            case rel => exact ⟨m' + 1, x' + 1, A5, c5, _, rfl, by omega, by omega, rfl, by omega, by omega, O5, ⟨(Cw4.out.belowB HB5.out hg).more (by omega), grown_belowV G4.out HB5.out HGS.out⟩⟩
          · go_wp2_with fail
            go_ret
            exact GenKs.mk (by omega) O4.out (HFIN.out _ G4.out)
      · go_ret
        exact GenKs.mk (by omega) O2.out (HFIN.out _ G2.out)
    · obtain ⟨j, rfl⟩ : ∃ j, k = j + 1 := ⟨k - 1, by omega⟩
      go_wp2_with (first | (go_at_call 125; (with_reducible refine (cur_pick wr _ S (2 + 200 * m) (3) (HC.out.1) (by omega) (by omega) (by omega)).mono ?_); rintro e w2 ⟨a, ⟨a0, a1⟩, rfl, hC, hG⟩; have Cw2 := Lib.hid hC; have Gw2 := Lib.hid hG; have Zw2 := hG.size; clear hC hG) | (go_at_call 125; (with_reducible refine (cur_pick w2 _ S (2 + 200 * m + 2) (60) (Cw2.out) (by omega) (by omega) (by omega)).mono ?_); rintro e w3 ⟨b, ⟨b0, b1⟩, rfl, hC, hG⟩; have Cw3 := Lib.hid hC; have Gw3 := Lib.hid hG; have Zw3 := hG.size; clear hC hG) | (go_at_call 135; refine (cur_ropeKind w3 _ S (2 + 200 * m + 2 + 2) _ Cw3.out (by omega)).mono ?_; rintro e w4 ⟨x0, x1, x2, x3, x4, rfl, hC, hG⟩; have C4 := Lib.hid hC; have G4 := Lib.hid (only_trans (only_trans (only_trans HC.out.2 Gw2.out) Gw3.out) hG); have O4 := Lib.hid (((HO.out.gen Gw2.out hg).gen Gw3.out hg).gen hG hg); have hz4 : w.heap.size + 1 ≤ w4.heap.size := (by have := G4.out.size; omega); clear hC hG) | (at_builtin; refine wp_app_RopeKind1 rfl (.tmp 26) (.tmp 30) rfl w4 (w.heap.size + 1) (.slice A m c) rows x0 x1 x2 x3 x4 rfl O4.out rfl m HL.out (by omega) hz4 ?_; intro A5 c5 w5 ho5 hb5; have O5 := Lib.hid ho5; have HB5 := Lib.hid hb5; clear ho5 hb5))
      go_roundg j
      case measure => omega
      case rel => exact ⟨j, m + 1, _, A5, c5, _, by omega, by omega, by go_num, rfl, by omega, by omega, rfl, by omega, by omega, O5, ⟨(C4.out.belowB HB5.out hg).more (by omega), grown_belowV G4.out HB5.out HGS.out⟩⟩
end Go.Proofs.Ytjfmicemnoglkaa
