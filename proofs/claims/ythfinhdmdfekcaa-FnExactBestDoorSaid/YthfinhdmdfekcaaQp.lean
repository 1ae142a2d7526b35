/- What copies and comparisons of parties come to. -/
import Derived.Test.YthfinhdmdfekcaaPAx10
import Derived.Test.YthfinhdmdfekcaaPAx9
import Derived.Test.YthfinhdmdfekcaaQk
namespace Go.Proofs.Ythfinhdmdfekcaa.Q
open Go.RowKit Go.Proofs.YthfinhdmdfekcaaW.PrintWords Go.Proofs.YthfinhdmdfekcaaW.PrintLast Go.Proofs.Ythfinhdmdfekcaa.PA
set_option linter.unusedVariables false
set_option linter.unusedSimpArgs false
def cParty (x : S69) : S67 := ⟨x.f0, x.f1⟩
theorem toPartyS_ev (l : List S69) (h : l.length ≤ 1048576) : Ev (fun k => laws_toPartyS.f k l) (l.map cParty) := by
  unfold laws_toPartyS.f
  refine Ev.pos (by omega) (Ev.pos (by omega) ?_)
  refine Ev.map_loop (fun k x3 i => laws_toPartyS.l0 k l x3 i) cParty z69 l (by omega) ?_ ?_ (List.replicate ((l.length : Int)).toNat z67) (by simp)
  · intro i x3 r hi hl hr
    refine Ev.round hr fun k => ?_
    simp only [laws_toPartyS.l0, laws_toParty.f, Option.bind_some]
    rw [if_pos (by omega), if_pos (by omega), if_pos (by omega), wnat i l.length hi (by omega)]
    simp [rd_T69, cParty]
  · intro x3 hl
    refine Ev.round (Ev.now x3) fun k => ?_
    simp only [laws_toPartyS.l0]
    rw [if_neg (by omega)]
theorem eqPartyS_ev (l : List S67) (h : l.length ≤ 1048576) : Ev (fun k => laws_eqPartyS.f k l l) true := by
  unfold laws_eqPartyS.f
  refine Ev.pos rfl ?_
  refine Ev.all_loop (fun k i => laws_eqPartyS.l0 k l l i) l.length true (fun i hi hr => ?_) ?_
  · refine Ev.round hr fun k => ?_
    simp only [laws_eqPartyS.l0, laws_eqParty.f, if_true, Option.bind_some]
    rw [if_pos (by omega), if_pos (by omega), if_pos (by omega), wnat i l.length hi (by omega)]
  · refine Ev.round (Ev.now true) fun k => ?_
    simp only [laws_eqPartyS.l0]
    rw [if_neg (by omega)]
theorem szPartyS_small (l : List S69) (h : l.length ≤ 1048576) : laws_szPartyS.f l 1048576 = some (1048576 - (l.length : Int)) := by
  unfold laws_szPartyS.f
  rw [wint _ (by omega) (by omega), if_neg (by omega)]
theorem szPartyS_big (l : List S69) (h : 1048576 < l.length) (hm : l.length ≤ maxLen) : laws_szPartyS.f l 1048576 = some (-1) := by
  unfold maxLen at hm
  unfold laws_szPartyS.f
  rw [wint _ (by omega) (by omega), if_pos (by omega)]


end Go.Proofs.Ythfinhdmdfekcaa.Q
