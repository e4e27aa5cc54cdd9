/- A block that the walk has just made. -/
import Derived.Test.YtjfmicemnoglkaaBase
namespace Go.Proofs.Ytjfmicemnoglkaa
open Go.RowKit
set_option linter.unusedVariables false
set_option linter.unusedSimpArgs false

theorem Blk.newE {w : World} {q : Nat} {t : TypeId} {cs : Array Value} (hq : q = w.heap.size) : Blk (w.alloc (.cells cs t)) q t cs := by subst hq; exact Blk.new w t cs
theorem Blk.drew' {w : World} {q : Nat} {t : TypeId} {cs : Array Value} (h : Blk w q t cs) : Blk w.drew q t cs := h
theorem rd_blk {w : World} {q n : Nat} {cs : Array Value} {ys : List Int} (h : Blk w q 3 cs) (hcs : cs = (IV ys).toArray) (hn : ys.length = n) : Rd w 1 (some ⟨q, 0, none⟩) n (IV ys) := by
  subst hcs hn
  have := Rd.of_block (n := ys.length) (size := 1) h (by simp)
  simpa using this
end Go.Proofs.Ytjfmicemnoglkaa
