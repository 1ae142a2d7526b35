/- What copies and comparisons of guides come to. -/
import Derived.Test.YthfinhdmdfekcaaPAx12
import Derived.Test.YthfinhdmdfekcaaPAx13
import Derived.Test.YthfinhdmdfekcaaQk
namespace Go.Proofs.Ythfinhdmdfekcaa.Q
open Go.RowKit Go.Proofs.YthfinhdmdfekcaaW.PrintWords Go.Proofs.YthfinhdmdfekcaaW.PrintLast Go.Proofs.Ythfinhdmdfekcaa.PA
set_option linter.unusedVariables false
set_option linter.unusedSimpArgs false
def cGuide (x : S77) : S75 := ⟨x.f0, x.f1, x.f2⟩
theorem toGuideS_ev (l : List S77) (h : l.length ≤ 1048576) : Ev (fun k => laws_toGuideS.f k l) (l.map cGuide) := by
  unfold laws_toGuideS.f
  refine Ev.pos (by omega) (Ev.pos (by omega) ?_)
  refine Ev.map_loop (fun k x3 i => laws_toGuideS.l0 k l x3 i) cGuide z77 l (by omega) ?_ ?_ (List.replicate ((l.length : Int)).toNat z75) (by simp)
  · intro i x3 r hi hl hr
    refine Ev.round hr fun k => ?_
    simp only [laws_toGuideS.l0, laws_toGuide.f, Option.bind_some]
    rw [if_pos (by omega), if_pos (by omega), if_pos (by omega), wnat i l.length hi (by omega)]
    simp [rd_T77, cGuide]
  · intro x3 hl
    refine Ev.round (Ev.now x3) fun k => ?_
    simp only [laws_toGuideS.l0]
    rw [if_neg (by omega)]
theorem eqGuideS_ev (l : List S75) (h : l.length ≤ 1048576) : Ev (fun k => laws_eqGuideS.f k l l) true := by
  unfold laws_eqGuideS.f
  refine Ev.pos rfl ?_
  refine Ev.all_loop (fun k i => laws_eqGuideS.l0 k l l i) l.length true (fun i hi hr => ?_) ?_
  · refine Ev.round hr fun k => ?_
    simp only [laws_eqGuideS.l0, laws_eqGuide.f, if_true, Option.bind_some]
    rw [if_pos (by omega), if_pos (by omega), if_pos (by omega), wnat i l.length hi (by omega)]
  · refine Ev.round (Ev.now true) fun k => ?_
    simp only [laws_eqGuideS.l0]
    rw [if_neg (by omega)]
theorem szGuideS_small (l : List S77) (h : l.length ≤ 1048576) : laws_szGuideS.f l 1048576 = some (1048576 - (l.length : Int)) := by
  unfold laws_szGuideS.f
  rw [wint _ (by omega) (by omega), if_neg (by omega)]
theorem szGuideS_big (l : List S77) (h : 1048576 < l.length) (hm : l.length ≤ maxLen) : laws_szGuideS.f l 1048576 = some (-1) := by
  unfold maxLen at hm
  unfold laws_szGuideS.f
  rw [wint _ (by omega) (by omega), if_pos (by omega)]


end Go.Proofs.Ythfinhdmdfekcaa.Q
