/- What marks on guides come to. -/
import Derived.Test.YthfinhdmdfekcaaPAx40
import Derived.Test.YthfinhdmdfekcaaQk
namespace Go.Proofs.Ythfinhdmdfekcaa.Q
open Go.RowKit Go.Proofs.YthfinhdmdfekcaaW.PrintWords Go.Proofs.YthfinhdmdfekcaaW.PrintLast Go.Proofs.Ythfinhdmdfekcaa.PA
set_option linter.unusedVariables false
set_option linter.unusedSimpArgs false

theorem markGuideS_ev (l : List S75) (a : Int) (h : l.length ≤ 1048576) (h0 : 0 ≤ a) (h1 : a ≤ 1000000000000) : ∃ l', Ev (fun k => laws_markGuideS.f k l a) (a + 3 * l.length, l') := by
  unfold laws_markGuideS.f
  have key : ∀ (m i : Nat) (x : List S75), i + m = l.length → x.length = l.length → ∃ l', Ev (fun k => laws_markGuideS.l0 k x (a + 3 * i) (i : Int)) (a + 3 * l.length, l') := by
    intro m
    induction m with
    | zero =>
      intro i x hi hl
      obtain rfl : i = l.length := by omega
      refine ⟨x, Ev.round (Ev.now _) fun k => ?_⟩
      simp only [laws_markGuideS.l0]
      rw [if_neg (by omega)]
    | succ m ih =>
      intro i x hi hl
      have key1 : ∀ x' : List S75, x'.length = l.length → ∃ l', Ev (fun k => laws_markGuideS.l0 k x' (a + 3 * ((i + 1 : Nat) : Int)) ((i + 1 : Nat) : Int)) (a + 3 * l.length, l') := fun x' hx' => ih (i + 1) x' (by omega) hx'
      obtain ⟨l', hl'⟩ := key1 (((x.set (i : Int).toNat (⟨IntKind.i8.wrap (a + 3 * (i : Int)), (rd_T75 x (i : Int)).f1, (rd_T75 x (i : Int)).f2⟩ : S75)).set (i : Int).toNat (⟨(rd_T75 (x.set (i : Int).toNat (⟨IntKind.i8.wrap (a + 3 * (i : Int)), (rd_T75 x (i : Int)).f1, (rd_T75 x (i : Int)).f2⟩ : S75)) (i : Int)).f0, IntKind.i8.wrap (a + 3 * (i : Int) + 1), (rd_T75 (x.set (i : Int).toNat (⟨IntKind.i8.wrap (a + 3 * (i : Int)), (rd_T75 x (i : Int)).f1, (rd_T75 x (i : Int)).f2⟩ : S75)) (i : Int)).f2⟩ : S75)).set (i : Int).toNat (⟨(rd_T75 ((x.set (i : Int).toNat (⟨IntKind.i8.wrap (a + 3 * (i : Int)), (rd_T75 x (i : Int)).f1, (rd_T75 x (i : Int)).f2⟩ : S75)).set (i : Int).toNat (⟨(rd_T75 (x.set (i : Int).toNat (⟨IntKind.i8.wrap (a + 3 * (i : Int)), (rd_T75 x (i : Int)).f1, (rd_T75 x (i : Int)).f2⟩ : S75)) (i : Int)).f0, IntKind.i8.wrap (a + 3 * (i : Int) + 1), (rd_T75 (x.set (i : Int).toNat (⟨IntKind.i8.wrap (a + 3 * (i : Int)), (rd_T75 x (i : Int)).f1, (rd_T75 x (i : Int)).f2⟩ : S75)) (i : Int)).f2⟩ : S75)) (i : Int)).f0, (rd_T75 ((x.set (i : Int).toNat (⟨IntKind.i8.wrap (a + 3 * (i : Int)), (rd_T75 x (i : Int)).f1, (rd_T75 x (i : Int)).f2⟩ : S75)).set (i : Int).toNat (⟨(rd_T75 (x.set (i : Int).toNat (⟨IntKind.i8.wrap (a + 3 * (i : Int)), (rd_T75 x (i : Int)).f1, (rd_T75 x (i : Int)).f2⟩ : S75)) (i : Int)).f0, IntKind.i8.wrap (a + 3 * (i : Int) + 1), (rd_T75 (x.set (i : Int).toNat (⟨IntKind.i8.wrap (a + 3 * (i : Int)), (rd_T75 x (i : Int)).f1, (rd_T75 x (i : Int)).f2⟩ : S75)) (i : Int)).f2⟩ : S75)) (i : Int)).f1, IntKind.i8.wrap (a + 3 * (i : Int) + 1 + 1)⟩ : S75)) (by simpa using hl)
      refine ⟨l', Ev.round hl' fun k => ?_⟩
      simp only [laws_markGuideS.l0, Option.bind_some]
      rw [if_pos (by omega), if_pos (by omega), wnat i l.length (by omega) (by omega)]
      rw [wint (a + 3 * (i : Int) + 1) (by omega) (by omega), wint (a + 3 * (i : Int) + 1 + 1) (by omega) (by omega), wint (a + 3 * (i : Int) + 1 + 1 + 1) (by omega) (by omega)]
      have e : (a + 3 * (i : Int) + 1 + 1 + 1) = a + 3 * ((i + 1 : Nat) : Int) := by omega
      rw [e]
  obtain ⟨l', hl'⟩ := key l.length 0 l (by omega) rfl
  exact ⟨l', by simpa using hl'⟩

end Go.Proofs.Ythfinhdmdfekcaa.Q
