/- The law's own copy of prices. -/
import Derived.Test.YtobcgcdjoogfnaaBase
namespace Go.Proofs.Ytobcgcdjoogfnaa
open Go.RowKit
set_option linter.unusedVariables false
set_option linter.unusedSimpArgs false

theorem laws_toPrices (x0 x1 x2 x3 : Int) (w : World) : Calls Try.prog 23 #[.agg #[.int .i64 x0, .int .i64 x1, .int .i64 x2, .int .i64 x3]] w (Ret w (.agg #[.int .i64 x0, .int .i64 x1, .int .i64 x2, .int .i64 x3])) := by
  go_enter Try.func23, Try.ntmps23
  go_wp2
  all_goals (go_light; refine bodyPost_ret ?_ rfl ⟨rfl, (by repeat (first | exact Below.refl _ _ | assumption | apply Below.drew | apply below_drewN | (refine Below.alloc ?_ (by first | omega | (simp; done) | (simp; omega)) _) | (refine Below.setCell ?_ (by first | omega | (simp; done) | (simp; omega)) _)))⟩; simp [results, Try.results23, go_sem, *])
end Go.Proofs.Ytobcgcdjoogfnaa
