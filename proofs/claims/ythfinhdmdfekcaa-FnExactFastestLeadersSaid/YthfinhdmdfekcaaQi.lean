/- What copies and comparisons of slices of whole numbers come to. -/
import Derived.Test.YthfinhdmdfekcaaPAx7
import Derived.Test.YthfinhdmdfekcaaPAx8
import Derived.Test.YthfinhdmdfekcaaQl
namespace Go.Proofs.Ythfinhdmdfekcaa.Q
open Go.RowKit Go.Proofs.YthfinhdmdfekcaaW.PrintWords Go.Proofs.YthfinhdmdfekcaaW.PrintLast Go.Proofs.Ythfinhdmdfekcaa.PA
set_option linter.unusedVariables false
set_option linter.unusedSimpArgs false
theorem toInt64S_ev (l : List Int) (h : l.length ≤ 1048576) : Ev (fun k => laws_toInt64S.f k l) l := by
  unfold laws_toInt64S.f
  refine Ev.pos (by omega) (Ev.pos (by omega) ?_)
  have := Ev.map_loop (fun k x3 i => laws_toInt64S.l0 k l x3 i) (fun x => x) 0 l (by omega) ?_ ?_ (List.replicate ((l.length : Int)).toNat 0) (by simp)
  · simpa using this
  · intro i x3 r hi hl hr
    refine Ev.round hr fun k => ?_
    simp only [laws_toInt64S.l0]
    rw [if_pos (by omega), if_pos (by omega), if_pos (by omega), wnat i l.length hi (by omega)]
    simp [rd]
  · intro x3 hl
    refine Ev.round (Ev.now x3) fun k => ?_
    simp only [laws_toInt64S.l0]
    rw [if_neg (by omega)]

theorem eqInt64S_ev (l : List Int) (h : l.length ≤ 1048576) : Ev (fun k => laws_eqInt64S.f k l l) true := by
  unfold laws_eqInt64S.f
  refine Ev.pos rfl ?_
  refine Ev.all_loop (fun k i => laws_eqInt64S.l0 k l l i) l.length true (fun i hi hr => ?_) ?_
  · refine Ev.round hr fun k => ?_
    simp only [laws_eqInt64S.l0]
    rw [if_pos (by omega), if_pos (by omega), if_pos (by omega), if_pos trivial, wnat i l.length hi (by omega)]
  · refine Ev.round (Ev.now true) fun k => ?_
    simp only [laws_eqInt64S.l0]
    rw [if_neg (by omega)]


end Go.Proofs.Ythfinhdmdfekcaa.Q
