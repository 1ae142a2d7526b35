/- The statement FnExactDoorTimes: its plain law. -/
import Derived.Test.YthfinhdmdfekcaaPAx32
import Derived.Test.YthfinhdmdfekcaaQi
import Derived.Test.YthfinhdmdfekcaaQj
import Derived.Test.YthfinhdmdfekcaaQp
import Derived.Test.YthfinhdmdfekcaaQpm
import Derived.Test.YthfinhdmdfekcaaQuDoorTimes
namespace Go.Proofs.Ythfinhdmdfekcaa.Q
open Go.RowKit Go.Proofs.YthfinhdmdfekcaaW.PrintWords Go.Proofs.YthfinhdmdfekcaaW.PrintLast Go.Proofs.Ythfinhdmdfekcaa.PA
set_option linter.unusedVariables false
set_option linter.unusedSimpArgs false
theorem FnExactDoorTimes
    (l0 : List S69)
    (l1 : List Int)
    (hm0 : l0.length ≤ maxLen) (hw0 : ∀ x ∈ l0, (Lit.int .i16 x.f0).wf = true ∧ (Lit.int .i16 x.f1).wf = true)
    (hm1 : l1.length ≤ maxLen) (hw1 : ∀ x ∈ l1, (Lit.int .i64 x).wf = true)
    : Ev (fun k => laws_FnExactDoorTimes.f k l0 l1) true := by
  unfold laws_FnExactDoorTimes.f
  by_cases hi1 : (l1.length : Int) > 1048576
  · exact Ev.pos hi1 (Ev.now _)
  refine Ev.neg hi1 ?_
  have hl1 : l1.length ≤ 1048576 := by omega
  by_cases hs0 : l0.length ≤ 1048576
  rotate_left
  · exact Ev.bind (Ev.const (szPartyS_big l0 (by omega) hm0)) (Ev.pos (by decide) (Ev.now _))
  refine Ev.bind (Ev.const (szPartyS_small l0 hs0)) (Ev.neg (by omega) ?_)
  have e0 := toPartyS_ev l0 hs0
  have q0 := eqPartyS_ev (l0.map cParty) (by simpa using hs0)
  obtain ⟨lm0, mk0⟩ := markPartyS_ev (l0.map cParty) (1) (by simpa using hs0) (by omega) (by (try simp only [List.length_map] at *); omega)
  have e1 := toInt64S_ev l1 hl1
  have q1 := eqInt64S_ev l1 hl1
  have mk1 := markInt64S_ev l1 (1 + 2 * ((l0.map cParty).length : Int)) hl1 (by omega) (by (try simp only [List.length_map] at *); omega)
  obtain ⟨r, hrl, hs, hi⟩ := DoorTimes_both (l0.map cParty) l1 (by simpa using hs0) hl1
  have qr := eqInt64S_ev r.1 hrl
  have mr := markInt64S_ev r.1 1 hrl (by omega) (by omega)
  have hr := heldInt64S_ev 1 r.1.length hrl (by omega) (by omega)
  refine Ev.bind e0 ?_
  refine Ev.bind e1 ?_
  refine Ev.bind hs ?_
  refine Ev.bind e0 ?_
  refine Ev.bind e1 ?_
  refine Ev.bind hi ?_
  first | refine Ev.bind q1 ?_ | refine Ev.bind qr ?_
  refine Ev.pos rfl ?_
  refine Ev.succ ?_
  simp only [laws_FnExactDoorTimes.j0]
  refine Ev.neg (by simp) ?_
  refine Ev.bind e0 ?_
  refine Ev.bind q0 ?_
  refine Ev.pos rfl ?_
  refine Ev.bind e1 ?_
  first | refine Ev.bind q1 ?_ | refine Ev.bind qr ?_
  refine Ev.pos rfl ?_
  refine Ev.bind mk0 ?_
  first | refine Ev.bind mk1 ?_ | refine Ev.bind mr ?_
  refine Ev.neg (by (try dsimp only); omega) ?_
  first | refine Ev.bind q1 ?_ | refine Ev.bind qr ?_
  refine Ev.pos rfl ?_
  refine Ev.succ ?_
  simp only [laws_FnExactDoorTimes.j1]
  refine Ev.neg (by simp) ?_
  first | refine Ev.bind mk1 ?_ | refine Ev.bind mr ?_
  refine Ev.bind hr ?_
  refine Ev.neg (by (try dsimp only); omega) ?_
  refine Ev.pos rfl ?_
  refine Ev.bind e0 ?_
  refine Ev.bind e1 ?_
  refine Ev.bind hi ?_
  first | refine Ev.bind q1 ?_ | refine Ev.bind qr ?_
  refine Ev.pos rfl ?_
  refine Ev.succ ?_
  simp only [laws_FnExactDoorTimes.j2]
  refine Ev.neg (by simp) ?_
  refine Ev.bind hr ?_
  refine Ev.neg (by (try dsimp only); omega) ?_
  refine Ev.pos rfl ?_
  exact Ev.now _
end Go.Proofs.Ythfinhdmdfekcaa.Q
