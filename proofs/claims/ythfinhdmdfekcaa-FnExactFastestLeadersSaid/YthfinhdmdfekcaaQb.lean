/- What the tests of legs come to. -/
import Derived.Test.YthfinhdmdfekcaaPAx2
import Derived.Test.YthfinhdmdfekcaaPAx4
import Derived.Test.YthfinhdmdfekcaaPAx5
import Derived.Test.YthfinhdmdfekcaaQk
namespace Go.Proofs.Ythfinhdmdfekcaa.Q
open Go.RowKit Go.Proofs.YthfinhdmdfekcaaW.PrintWords Go.Proofs.YthfinhdmdfekcaaW.PrintLast Go.Proofs.Ythfinhdmdfekcaa.PA
set_option linter.unusedVariables false
set_option linter.unusedSimpArgs false

theorem In_b (a lo hi : Int) : spec_l00In.f a lo hi = some (inB a lo hi) := In_c a lo hi
def okLegs (l : List Int) : Bool := inB (l.length : Int) 1 8 && l.all fun n => inB n 0 20
theorem l07Legs_ev (l : List Int) (h : l.length ≤ 9223372036854775806) : Ev (fun k => spec_l07Legs.f k l) (okLegs l) := by
  unfold spec_l07Legs.f okLegs
  rw [Bool.and_comm]
  refine Ev.all_or (fun k i => spec_l07Legs.l0 k l i) (fun n => inB n 0 20) 0 _ l (fun i hi ho r hr => ?_) (fun i hi ho => ?_) ?_
  · refine Ev.round hr fun k => ?_
    simp only [spec_l07Legs.l0, In_b, Option.bind_some, rd_nat]
    rw [if_pos (by omega), if_pos (by omega), if_pos ho, wnat i l.length hi (by omega)]
  · refine Ev.round (Ev.now false) fun k => ?_
    simp only [spec_l07Legs.l0, In_b, Option.bind_some, rd_nat]
    rw [if_pos (by omega), if_pos (by omega), if_neg (by rw [ho]; simp)]
  · refine Ev.round (Ev.now _) fun k => ?_
    simp only [spec_l07Legs.l0, In_b, Option.bind_some]
    rw [if_neg (by omega)]
theorem ValidLegs_f (l : List Int) : impl_ValidLegs.f l = some (okLegs l) := rfl

end Go.Proofs.Ythfinhdmdfekcaa.Q
