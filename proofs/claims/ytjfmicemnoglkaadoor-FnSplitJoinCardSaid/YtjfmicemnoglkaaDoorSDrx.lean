/- The lists of texts that the law draws. -/
import Derived.Test.YtjfmicemnoglkaaDoorSDrw
namespace Go.Proofs.YtjfmicemnoglkaaDoor
open Go.RowKit
set_option linter.unusedVariables false
set_option linter.unusedSimpArgs false

theorem info_byte : (Tryd.prog.info? 5).map (fun i => (i.zero, i.size, i.bytes)) = some (some (.int .u8 0), 1, 1) := by kernel_rfl
theorem made_size (n : Nat) : (madeCells #[Value.int .u8 0] n).size = n := by simp [madeCells]
theorem anys_size : ∀ x ∈ anys, x.size ≤ 4010 := by decide
/-- A text of n bytes 0. -/
def zst (n : Nat) : ByteArray := ⟨(List.replicate n (0 : UInt8)).toArray⟩
theorem zst_size (n : Nat) : (zst n).size = n := by simp [zst, ByteArray.size]
theorem zst_conv (w : World) (n : Nat) : (convert 22 9 (.slice (some ⟨w.heap.size, 0, none⟩) n n)).run Tryd.prog (w.alloc (.cells (madeCells #[.int .u8 0] n) 5)) = .ok (.string (zst n)) (w.alloc (.cells (madeCells #[.int .u8 0] n) 5)) := by
  have := run_convert_bytes_back (P := Tryd.prog) (w.alloc (.cells (madeCells #[.int .u8 0] n) 5)) 22 9 5 ⟨w.heap.size, 0, none⟩ n (List.replicate n 0) Tryd.underlying22 Tryd.underlying5 Tryd.underlying9 (fun j hj => by
    have hj : j < n := by simpa using hj
    have h1 := (Blk.new w 5 (madeCells #[Value.int .u8 0] n)).cell j
    rw [Addr.add_lit, Nat.zero_add, h1]
    simp [madeCells, hj, Nat.mod_one])
  rw [List.length_replicate] at this
  exact this
theorem wp_app_str1q {ops : Array Oper} {rest : List Oper} {o : Oper} {a : Act} {Q : Exit → Act → World → Prop} (hgd : o.guard = none) (s x : Operand)
    (ho : o.op = .call { callee := .builtin .append, args := #[s, x], argTypes := #[26, 26] }) (w : World) (q : Nat) (hq : q = w.heap.size) (B : Nat) (v : Value) (xs : List ByteArray) (z : ByteArray)
    (hs : a.eval s = v) (hown : OwS w B v xs) (hx : a.eval x = .slice (some ⟨q, 0, none⟩) 1 1) (m : Nat) (hm : xs.length = m) (hl : m < 1000000) (hB : B ≤ w.heap.size)
    (h : ∀ A' c' w', OwS w' B (.slice A' (m + 1) c') (xs ++ [z]) → Below B w w' → wpList Tryd.prog ops Q rest (a.put o.dst (.slice A' (m + 1) c')) w') :
    wpList Tryd.prog ops Q (o :: rest) a (w.alloc (.cells #[.string z] 9)) := by
  subst hq
  exact wp_app_str1 hgd s x ho w B v xs z hs hown hx m hm hl hB h
theorem GenJS.mk {w w' : World} {A : Option Addr} {n c : Nat} {xs : List ByteArray} {t : ByteArray} (hx : ∀ x ∈ xs, x.size ≤ 4010) (ht : t ∈ marks) (hn : n ≤ 4) (ho : OwS w' (w.heap.size + 1) (.slice A n c) xs) (hb : Below w.heap.size w w') : GenJS w (.returned (.tuple #[.slice A n c, .string t])) w' :=
  ⟨A, n, c, xs, t, hx, ht, rfl, hn, ho.base (Nat.le_succ _), hb⟩
set_option maxRecDepth 100000 in
set_option maxHeartbeats 2000000 in
theorem draw_JoinStrings (w : World) (S : Src) (h : S.ok w) : Calls Tryd.prog 7 #[.slice S.A S.n S.c] w (GenJS w) := by
  have H := Lib.hid (Cur.new h)
  have hgs : (w.alloc (.cells #[.slice S.A S.n S.c, .int .i64 0, .int .u64 0] 37)).heap.size = w.heap.size + 1 := by simp
  have HB : Hid (Below w.heap.size w (w.alloc (.cells #[.slice S.A S.n S.c, .int .i64 0, .int .u64 0] 37))) := Lib.hid ((Below.refl _ _).alloc (Nat.le_refl _) _)
  have O0 := Lib.hid (OwS.lit0 (w.alloc (.cells #[.slice S.A S.n S.c, .int .i64 0, .int .u64 0] 37)) (w.heap.size + 1) (w.heap.size + 1) (by omega) hgs.symm)
  clear h
  go_enter Tryd.func7, Tryd.ntmps7
  go_wp2_with (go_at_call 16; (with_reducible refine (cur_pick _ _ S (0) (4) (H.out.alloc _) (by omega) (by omega) (by omega)).mono ?_); rintro e w1 ⟨n0, ⟨n00, n01⟩, rfl, hC, hG⟩; have Cw1 := Lib.hid hC; have Gw1 := Lib.hid hG; have Zw1 := hG.size; clear hC hG)
  obtain ⟨j0, rfl⟩ := Int.eq_ofNat_of_zero_le n00
  have hg : w.heap.size < w.heap.size + 1 := Nat.lt_succ_self _
  have O1 := Lib.hid (O0.out.gen Gw1.out hg)
  have A1 : Hid (Cur w1 w.heap.size S 2 ∧ (w.alloc (.cells #[.slice S.A S.n S.c, .int .i64 0, .int .u64 0] 37)).grownBy w1 (some w.heap.size)) := ⟨Cw1.out, only_trans (only_alloc (World.grownBy.refl _ _) _) Gw1.out⟩
  clear H O0 Cw1 Gw1 Zw1
  generalize w.alloc (.cells #[.slice S.A S.n S.c, .int .i64 0, .int .u64 0] 37) = v at *
  have HGS := Lib.hid hgs
  clear hgs
  have HFIN : Hid (∀ w' : World, v.grownBy w' (some w.heap.size) → Below w.heap.size w w') := Lib.hid (fun w' hG => HB.out.grown hG (by have := HGS.out; omega) (fun k hk => by injection hk with hk; omega))
  clear HB
  go_loopg [5, 7] j0 (fun gg li i wr => ∃ (k : Nat) (A : Option Addr) (c : Nat) (xs : List ByteArray), k ≤ j0 ∧ j0 ≤ k + gg ∧ i = .int .i64 k ∧ li = .slice A k c ∧ Hid (∀ x ∈ xs, x.size ≤ 4010) ∧ Hid (OwS wr (w.heap.size + 1) (.slice A k c) xs) ∧ Hid (Cur wr w.heap.size S (2 + 4 * k) ∧ v.grownBy wr (some w.heap.size)))
  case atStart => exact ⟨0, _, _, [], by omega, by omega, rfl, rfl, Lib.hid (by simp), O1, ⟨A1.out.1, A1.out.2⟩⟩
  case round =>
    obtain ⟨k, A, c, xs, hk1, hk2, rfl, rfl, HX, HO, HC⟩ := hrel
    have hsz := HC.out.2.size
    have hvs := HGS.out
    have HL := Lib.hid HO.out.len_.1
    clear O1 A1
    have hk4 : j0 < 4 := by omega
    rcases Nat.lt_or_ge k j0 with hlt | hge
    · have u1 : IntKind.i64.wrap ((k : Int) + 1) = (k : Int) + 1 := IntWalk.i64_in _ (by omega)
      go_wp2_with fail
      refine (cur_any1 wr _ S _ HC.out.1 (by omega)).mono ?_
      rintro e w2 ⟨s, hs, rfl, hC, hG⟩
      have C2 := Lib.hid hC
      have G2 := Lib.hid (only_trans HC.out.2 hG)
      have O2 := Lib.hid (HO.out.gen hG hg)
      have HS := Lib.hid hs
      have hz2 : w.heap.size + 1 ≤ w2.heap.size := by have := G2.out.size; omega
      clear hC hG hs
      go_wp2_with (at_builtin; refine wp_app_str1 rfl (.tmp 19) (.tmp 22) rfl w2 (w.heap.size + 1) (.slice A k c) xs s rfl O2.out rfl k HL.out (by omega) hz2 ?_; intro A5 c5 w5 ho5 hb5; have O5 := Lib.hid ho5; have HB5 := Lib.hid hb5; clear ho5 hb5)
      go_roundg (j0 - (k + 1))
      case measure => omega
      case rel => exact ⟨k + 1, A5, c5, _, by omega, by omega, by go_num, rfl, Lib.hid (fun x hx => by
        rcases List.mem_append.1 hx with hx | hx
        · exact HX.out x hx
        · simp at hx; subst hx; exact anys_size _ HS.out), O5, ⟨(C2.out.belowB HB5.out hg).more (by omega), by have := HGS.out; exact grown_below G2.out (HB5.out.mono (by omega))⟩⟩
    · obtain rfl : k = j0 := by omega
      go_wp2_with ((go_at_call 17; (with_reducible refine (cur_one wr _ S (2 + 4 * k) (20) (HC.out.1) (by omega) (by omega) (by omega)).mono ?_); rintro e w2 ⟨b, rfl, hC, hG⟩; have Cw2 := Lib.hid hC; have Gw2 := Lib.hid hG; have Zw2 := hG.size; clear hC hG); have O2 := Lib.hid (HO.out.gen Gw2.out hg); have G2 := Lib.hid (only_trans HC.out.2 Gw2.out))
      · (go_at_call 16; (with_reducible refine (cur_pick w2 _ S (2 + 4 * k + 2) (20) (Cw2.out) (by omega) (by omega) (by omega)).mono ?_); rintro e w3 ⟨p, ⟨p0, p1⟩, rfl, hC, hG⟩; have Cw3 := Lib.hid hC; have Gw3 := Lib.hid hG; have Zw3 := hG.size; clear hC hG)
        obtain ⟨q, rfl⟩ := Int.eq_ofNat_of_zero_le p0
        have O3 := Lib.hid (O2.out.gen Gw3.out hg)
        have G3 := Lib.hid (only_trans G2.out Gw3.out)
        obtain ⟨N, hN⟩ : ∃ N : Nat, N = 3990 + q := ⟨_, rfl⟩
        have uN : IntKind.i64.wrap (3990 + (q : Int)) = (N : Int) := (IntWalk.i64_in _ (by omega)).trans (by omega)
        have hmk := run_make_row' (P := Tryd.prog) 22 5 (.int .u8 0) 1 Tryd.underlying22 info_byte rfl .i64 .i64 N (by omega) (by omega)
        have hcv := zst_conv w3 N
        have hz3 : w.heap.size + 1 ≤ w3.heap.size := by have := G3.out.size; omega
        have O4 := Lib.hid (O3.out.below ((Below.refl w3.heap.size w3).alloc (Nat.le_refl _) (.cells (madeCells #[.int .u8 0] N) 5)))
        have sz4 : w3.heap.size + 1 = (w3.alloc (.cells (madeCells #[.int .u8 0] N) 5)).heap.size := by simp
        have SZ4 := Lib.hid sz4
        have hN4 : N ≤ 4010 := by omega
        clear sz4 hN
        go_wp2_with (at_builtin; refine wp_app_str1q rfl (.tmp 26) (.tmp 32) rfl (w3.alloc (.cells (madeCells #[.int .u8 0] N) 5)) (w3.heap.size + 1) SZ4.out (w.heap.size + 1) (.slice A k c) xs (zst N) rfl O4.out rfl k HL.out (by omega) (by rw [← SZ4.out]; omega) ?_; intro A5 c5 w5 ho5 hb5; have O5 := Lib.hid ho5; have HB5 := Lib.hid hb5; clear ho5 hb5)
        have B5 := Lib.hid (((Below.refl (w.heap.size + 1) w3).alloc hz3 (.cells (madeCells #[.int .u8 0] N) 5)).trans HB5.out)
        have C5 := Lib.hid ((Cw3.out.belowB B5.out hg).alloc (.cells (marks.map Value.string).toArray 9))
        have G5 : Hid (v.grownBy w5 (some w.heap.size)) := Lib.hid (by have := HGS.out; exact grown_below G3.out (B5.out.mono (by omega)))
        have R5 := Lib.hid (RdS.lit w5 9 marks)
        have hz5 : w.heap.size + 1 ≤ w5.heap.size := by have := G5.out.size; omega
        have HX5 : Hid (∀ x ∈ xs ++ [zst N], x.size ≤ 4010) := Lib.hid (fun x hx => by
          rcases List.mem_append.1 hx with hx | hx
          · exact HX.out x hx
          · simp at hx; subst hx; rw [zst_size]; exact hN4)
        clear hmk hcv uN
        go_wp2_with fail
        refine (cur_of _ _ S _ marks _ _ _ C5.out (by omega) R5.out (by intro b off e; injection e with e; injection e with e; omega) (by decide) (by decide) rfl).mono ?_
        rintro e w6 ⟨t, ht, rfl, hC, hG⟩
        have HT := Lib.hid ht
        have O6 := Lib.hid ((O5.out.below ((Below.refl w5.heap.size w5).alloc (Nat.le_refl _) (.cells (marks.map Value.string).toArray 9))).gen hG hg)
        have G6 := Lib.hid (only_trans G5.out (only_trans (only_alloc (World.grownBy.refl w5 _) _) hG))
        clear hC hG ht
        go_wp2_with fail
        go_ret2
        exact GenJS.mk HX5.out HT.out (by omega) O6.out (HFIN.out _ G6.out)
      · have C5 := Lib.hid (Cw2.out.alloc (.cells (marks.map Value.string).toArray 9))
        have R5 := Lib.hid (RdS.lit w2 9 marks)
        have hz5 : w.heap.size + 1 ≤ w2.heap.size := by have := G2.out.size; omega
        refine (cur_of _ _ S _ marks _ _ _ C5.out (by omega) R5.out (by intro b off e; injection e with e; injection e with e; omega) (by decide) (by decide) rfl).mono ?_
        rintro e w6 ⟨t, ht, rfl, hC, hG⟩
        have HT := Lib.hid ht
        have O6 := Lib.hid ((O2.out.below ((Below.refl w2.heap.size w2).alloc (Nat.le_refl _) (.cells (marks.map Value.string).toArray 9))).gen hG hg)
        have G6 := Lib.hid (only_trans G2.out (only_trans (only_alloc (World.grownBy.refl w2 _) _) hG))
        clear hC hG ht
        go_wp2_with fail
        go_ret2
        exact GenJS.mk HX.out HT.out (by omega) O6.out (HFIN.out _ G6.out)
end Go.Proofs.YtjfmicemnoglkaaDoor
