/- The statement FnExactSoundFrom: its plain law. -/
import Derived.Test.YtdedijjbdkoekaaPAx1
import Derived.Test.YtdedijjbdkoekaaPAx2
import Derived.Test.YtdedijjbdkoekaaPAx3
import Derived.Test.YtdedijjbdkoekaaQl
namespace Go.Proofs.Ytdedijjbdkoekaa.Q
open Go.RowKit Go.Proofs.YtdedijjbdkoekaaW.PrintWords Go.Proofs.YtdedijjbdkoekaaW.PrintLast Go.Proofs.Ytdedijjbdkoekaa.PA
set_option linter.unusedVariables false
set_option linter.unusedSimpArgs false

theorem Ev.const {α : Type} {x : Option α} {a : α} (h : x = some a) : Ev (fun _ => x) a := by subst h; exact Ev.now a
theorem Ev.succ {α : Type} {g : Nat → Option α} {r : α} (h : Ev (fun k => g (k + 1)) r) : Ev g r := Ev.step (fun _ => rfl) h
theorem sg_pos {n : Int} (h : 0 < n) : soundSg n = 1 := by
  unfold soundSg mx mn
  (repeat' split) <;> omega
theorem sg_neg {n : Int} (h : n < 0) : soundSg n = -1 := by
  unfold soundSg mx mn
  (repeat' split) <;> omega
theorem mx_abs (n : Int) : mx n (-n) = if n < 0 then -n else n := by
  unfold mx
  (repeat' split) <;> omega
theorem Max_abs (n : Int) (h0 : -1000 ≤ n) (h1 : n ≤ 1000) : spec_l06Size.f n = some (mx n (-n)) := by
  unfold spec_l06Size.f spec_l00Max.f mx
  rw [wint (-n) (by omega) (by omega)]
  (repeat' split) <;> first | rfl | omega | (simp only [Option.bind_some]; congr 1; omega)
def soundJ (x y h v : Int) : Int :=
  if 2 * v > 5 * h then (if y < 0 then 0 else 4) else if 2 * h > 5 * v then (if x > 0 then 2 else 6) else if x > 0 then (if y < 0 then 1 else 3) else if y > 0 then 5 else 7
theorem sound_ev (x y h v : Int) (h0 : 0 ≤ h) (h1 : h ≤ 1000) (v0 : 0 ≤ v) (v1 : v ≤ 1000) : ∀ b : Bool, Ev (fun k => spec_l06Sound.j0 k x y h v b) (if b = true then 8 else soundJ x y h v) := by
  have e1 : wrap64 (2 * v) = 2 * v := wint _ (by omega) (by omega)
  have e2 : wrap64 (5 * h) = 5 * h := wint _ (by omega) (by omega)
  have e3 : wrap64 (2 * h) = 2 * h := wint _ (by omega) (by omega)
  have e4 : wrap64 (5 * v) = 5 * v := wint _ (by omega) (by omega)
  intro b
  refine Ev.succ ?_
  simp only [spec_l06Sound.j0, e1, e2]
  cases b with
  | true => simpa using Ev.now (8 : Int)
  | false =>
    simp only [Bool.false_eq_true, if_false, soundJ]
    by_cases c1 : 2 * v > 5 * h
    · rw [if_pos c1]
      refine Ev.pos c1 (Ev.succ ?_)
      simp only [spec_l06Sound.j1, e1, e2, e3, e4]
      by_cases y1 : y < 0
      · rw [if_pos y1]; exact Ev.pos (by simpa using y1) (Ev.now _)
      · rw [if_neg y1]; exact Ev.neg (by simpa using y1) (Ev.pos c1 (Ev.now _))
    · rw [if_neg c1]
      refine Ev.neg c1 (Ev.succ ?_)
      simp only [spec_l06Sound.j1, e1, e2, e3, e4]
      refine Ev.neg (by simp) (Ev.neg c1 ?_)
      by_cases c2 : 2 * h > 5 * v
      · rw [if_pos c2]
        refine Ev.pos c2 (Ev.succ ?_)
        simp only [spec_l06Sound.j2, e3, e4]
        by_cases x1 : x > 0
        · rw [if_pos x1]; exact Ev.pos (by simpa using x1) (Ev.now _)
        · rw [if_neg x1]; exact Ev.neg (by simpa using x1) (Ev.pos c2 (Ev.now _))
      · rw [if_neg c2]
        refine Ev.neg c2 (Ev.succ ?_)
        simp only [spec_l06Sound.j2, e3, e4]
        refine Ev.neg (by simp) (Ev.neg c2 ?_)
        by_cases x1 : x > 0
        · rw [if_pos x1]
          refine Ev.pos x1 (Ev.succ ?_)
          simp only [spec_l06Sound.j3]
          by_cases y1 : y < 0
          · rw [if_pos y1]; exact Ev.pos (by simpa using y1) (Ev.now _)
          · rw [if_neg y1]; exact Ev.neg (by simpa using y1) (Ev.pos x1 (Ev.now _))
        · rw [if_neg x1]
          refine Ev.neg x1 (Ev.succ ?_)
          simp only [spec_l06Sound.j3]
          refine Ev.neg (by simp) (Ev.neg x1 ?_)
          by_cases y1 : y > 0
          · rw [if_pos y1, if_pos y1]; exact Ev.now _
          · rw [if_neg y1, if_neg y1]; exact Ev.now _
theorem sound_tab (x y h v : Int) (hh : h = if x < 0 then -x else x) (hv : v = if y < 0 then -y else y) :
    soundTab (soundSg (if 2 * h > 5 * v then 0 else y)) (soundSg (if 2 * v > 5 * h then 0 else x)) = if (h == 0 && v == 0) = true then 8 else soundJ x y h v := by
  have s0 : soundSg 0 = 0 := by decide
  rcases Int.lt_trichotomy x 0 with hx | rfl | hx <;> rcases Int.lt_trichotomy y 0 with hy | rfl | hy
  all_goals (first | rw [if_pos hx] at hh | rw [if_neg (by omega)] at hh)
  all_goals (first | rw [if_pos hy] at hv | rw [if_neg (by omega)] at hv)
  all_goals (have hz : ((h == 0 && v == 0) = true) ↔ (h = 0 ∧ v = 0) := by simp)
  all_goals by_cases c1 : 2 * v > 5 * h <;> by_cases c2 : 2 * h > 5 * v
  all_goals (first | (exfalso; omega) | skip)
  all_goals (unfold soundJ; simp only [c1, c2, if_true, if_false, hz, s0])
  all_goals (try rw [sg_pos hx]) 
  all_goals (try rw [sg_neg hx])
  all_goals (try rw [sg_pos hy])
  all_goals (try rw [sg_neg hy])
  all_goals (first | rw [if_pos (by omega)] | rw [if_neg (by omega)])
  all_goals (repeat' split) <;> first | rfl | omega
theorem wf8 {n : Int} (h : (Lit.int .i8 n).wf = true) : -128 ≤ n ∧ n ≤ 127 := by
  simp only [Lit.wf, Bool.and_eq_true, decide_eq_true_eq] at h
  exact h
theorem FnExactSoundFrom (a0_0 a0_1 a1_0 a1_1 : Int) (w0 : (Lit.int .i8 a0_0).wf = true) (w1 : (Lit.int .i8 a0_1).wf = true) (w2 : (Lit.int .i8 a1_0).wf = true) (w3 : (Lit.int .i8 a1_1).wf = true) :
    Ev (fun k => laws_FnExactSoundFrom.f k a0_0 a0_1 a1_0 a1_1) true := by
  have b0 := wf8 w0
  have b1 := wf8 w1
  have b2 := wf8 w2
  have b3 := wf8 w3
  have ex : wrap64 (wrap64 a1_0 - wrap64 a0_0) = a1_0 - a0_0 := by rw [wint a1_0 (by omega) (by omega), wint a0_0 (by omega) (by omega)]; exact wint _ (by omega) (by omega)
  have ey : wrap64 (wrap64 a1_1 - wrap64 a0_1) = a1_1 - a0_1 := by rw [wint a1_1 (by omega) (by omega), wint a0_1 (by omega) (by omega)]; exact wint _ (by omega) (by omega)
  generalize hx : a1_0 - a0_0 = x at ex
  generalize hy : a1_1 - a0_1 = y at ey
  have hxb : -255 ≤ x ∧ x ≤ 255 := by omega
  have hyb : -255 ≤ y ∧ y ≤ 255 := by omega
  have hh := mx_abs x
  have hv := mx_abs y
  generalize hhh : mx x (-x) = h at hh
  generalize hvv : mx y (-y) = v at hv
  have hhb : 0 ≤ h ∧ h ≤ 255 := by rw [hh]; split <;> omega
  have hvb : 0 ≤ v ∧ v ≤ 255 := by rw [hv]; split <;> omega
  have hi : impl_SoundFrom.f a0_0 a0_1 a1_0 a1_1 = some (if (h == 0 && v == 0) = true then 8 else soundJ x y h v) := by
    unfold impl_SoundFrom.f
    rw [ex, ey, wint (-x) (by omega) (by omega), wint (-y) (by omega) (by omega), hhh, hvv, wint (2 * v) (by omega) (by omega), wint (5 * h) (by omega) (by omega), wint (2 * h) (by omega) (by omega), wint (5 * v) (by omega) (by omega), sound_tab x y h v hh hv]
  have hs : Ev (fun k => spec_SoundFrom.f k a0_0 a0_1 a1_0 a1_1) (if (h == 0 && v == 0) = true then 8 else soundJ x y h v) := by
    unfold spec_SoundFrom.f spec_l06Sound.f
    have m1 : spec_l06Size.f (wrap64 (wrap64 a1_0 - wrap64 a0_0)) = some h := by rw [ex, Max_abs x (by omega) (by omega), hhh]
    have m2 : spec_l06Size.f (wrap64 (wrap64 a1_1 - wrap64 a0_1)) = some v := by rw [ey, Max_abs y (by omega) (by omega), hvv]
    refine Ev.bind (a := if (h == 0 && v == 0) = true then 8 else soundJ x y h v) (Ev.bind (Ev.const m1) (Ev.bind (Ev.const m2) ?_)) (Ev.now _)
    rw [ex, ey]
    by_cases c : h = 0
    · refine Ev.pos c (Ev.eq (sound_ev x y h v hhb.1 (by omega) hvb.1 (by omega) (v == 0)) ?_)
      simp [c]
    · refine Ev.neg c (Ev.eq (sound_ev x y h v hhb.1 (by omega) hvb.1 (by omega) false) ?_)
      simp [c]
  unfold laws_FnExactSoundFrom.f laws_toSpot.f
  simp only [Option.bind_some]
  exact Ev.bind hs (Ev.bind (Ev.const hi) (Ev.pos rfl (Ev.now _)))

end Go.Proofs.Ytdedijjbdkoekaa.Q
