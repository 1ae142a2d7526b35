/- The statement FnExactSeenAlong of this program: what its proof uses, part 7 of 18. The call returns true for all arguments. No condition of its own. -/
import Derived.Sort.WalkB12
import Derived.Sort.EncStr
import Derived.Lib.SlicesS
import Derived.RegionTactic
import Derived.ChangeAlike
import Derived.Test.YtjogemppgdeomaaZFnExactSeenAlong5
section
namespace Go.Proofs
open Go.RowKit Go.Lib Go.Sort
set_option linter.unusedVariables false
set_option linter.unusedSimpArgs false
theorem HoldsK.two {w : World} {blk off : Nat} {d : Array S8} (h : HoldsK encS8 2 w blk off d) {i : Nat} (hi : i < d.size) :
    w.cell? ⟨blk, off + i * 2, none⟩ = some (.int .i8 d[i]!.1.1) ∧ w.cell? ⟨blk, off + i * 2 + 1, none⟩ = some (.int .i8 d[i]!.1.2) ∧ w.frozen? ⟨blk, off + i * 2, none⟩ = false ∧ w.frozen? ⟨blk, off + i * 2 + 1, none⟩ = false :=
  ⟨(h.cell hi (by omega : 0 < 2)).1, (h.cell hi (by omega : 1 < 2)).1, (h.cell hi (by omega : 0 < 2)).2, (h.cell hi (by omega : 1 < 2)).2⟩
set_option maxHeartbeats 4000000 in
set_option maxRecDepth 1000000 in
theorem compactS8 (blk off cap : Nat) (d : Array S8) (w : World) (hH : HoldsK encS8 2 w blk off d) (hsz : d.size ≤ 4611686018427387904) (hcap : d.size ≤ cap) :
    Calls Try.prog 104 #[.slice (some ⟨blk, off, none⟩) d.size cap] w fun e w' => e = .returned (.slice (some ⟨blk, off, none⟩) (compactUpTo d d.size).length cap) ∧ ∃ q z, w' = putRowK encS8 2 (Sort.ahead w q) blk off (compactUpTo d d.size ++ List.replicate (d.size - (compactUpTo d d.size).length) z).toArray := by
  have same : ∀ q, (∀ j, j < d.size → keeps d j = true) → (compactUpTo d d.size).length = d.size ∧ w.drewN q = putRowK encS8 2 (Sort.ahead w q) blk off (compactUpTo d d.size ++ List.replicate (d.size - (compactUpTo d d.size).length) default).toArray := by
    intro q hall
    have e : compactUpTo d d.size = d.toList := by rw [compactUpTo_all d _ hall, range_map_get]
    rw [e]; refine ⟨by simp, ?_⟩; simp only [Array.length_toList, Nat.sub_self, List.replicate_zero, List.append_nil, Array.toArray_toList]; exact (putRowK_self encS8 2 (Sort.ahead w q) blk off d (holdsK_ahead encS8 2 w q blk off d hH)).symm
  have HS : Aside _ := same; clear same
  by_cases h2 : d.size < 2
  · have HH : Aside _ := hH
    clear hH
    go_enter Try.func104, Try.ntmps104
    go_wp2
    go_ret
    obtain ⟨e1, e2⟩ := HS.out 0 (fun j hj => keeps_lt_one d j (by omega)); exact ⟨by rw [e1]; rfl, 0, _, e2⟩
  · go_enter Try.func104, Try.ntmps104
    go_wp2
    go_loopg [3] d.size (fun g s3 wr => ∃ k q : Nat, 1 ≤ k ∧ k ≤ d.size ∧ d.size - k ≤ g ∧ s3 = .int .i64 k ∧ wr = w.drewN q ∧ ∀ j, j < k → keeps d j = true)
    case atStart => exact ⟨1, 0, Nat.le_refl _, by omega, by omega, rfl, rfl, keeps_lt_one d⟩
    case round =>
      obtain ⟨k, q, hk1, hk, hg, rfl, rfl, hall⟩ := hrel
      by_cases hlt : k < d.size
      · obtain ⟨c1, c1b, f1, f1b⟩ := HoldsK.two hH hlt
        obtain ⟨c0, c0b, f0, f0b⟩ := HoldsK.two hH (show k - 1 < d.size by omega); have A : Aside _ := hall; have HH : Aside _ := hH; clear hall hH; obtain ⟨p, rfl⟩ : ∃ p, k = p + 1 := ⟨k - 1, by omega⟩; rw [show p + 1 - 1 = p from rfl] at c0 c0b f0 f0b; generalize h1 : d[p + 1]! = x at c1 c1b; generalize h0 : d[p]! = y at c0 c0b; have B := And.intro h1 h0; clear h1 h0; obtain ⟨⟨x1, x2⟩, hx⟩ := x; obtain ⟨⟨y1, y2⟩, hy⟩ := y
        dsimp only at c0 c0b c1 c1b
        have done : (x1 ≠ y1 ∨ x2 ≠ y2) → ∀ j, j < p + 1 + 1 → keeps d j = true := by
          intro hne j hj
          by_cases e : j = p + 1
          · subst e
            refine keeps_pos ?_; rw [show p + 1 - 1 = p from rfl, B.1, B.2]; intro e; have e1 : x1 = y1 := congrArg (fun z => z.1.1) e; have e2 : x2 = y2 := congrArg (fun z => z.1.2) e
            rcases hne with h | h
            · exact h e1
            · exact h e2
          · exact A j (by omega)
        have DN : Aside _ := done; clear done; have BB : Aside _ := B; clear B
        by_cases e1 : x1 = y1
        · by_cases e2 : x2 = y2
          · subst e1
            subst e2
            go_wp2_with fail
            go_region
            go_wp2
            clear c0 c0b c1 c1b f0 f0b f1 f1b
            go_loopg [3, 5] d.size (fun g s3 s5 wr => ∃ (kk k2 q2 : Nat) (dk : Array S8), s3 = .int .i64 kk ∧ s5 = .int .i64 k2 ∧ 1 ≤ k2 ∧ p + 1 + k2 ≤ d.size ∧ d.size - (p + 1 + k2) ≤ g ∧ wr = putRowK encS8 2 (Sort.ahead w q2) blk off dk ∧ CompInv d (p + 1 + k2) kk dk)
            case atStart => exact ⟨p + 1, 1, q + 1, d, by go_num, rfl, Nat.le_refl _, by omega, by omega, (putRowK_self encS8 2 (Sort.ahead w (q + 1)) blk off d (holdsK_ahead encS8 2 w (q + 1) blk off d HH.out)).symm, CompInv.start A.out (keeps_neg (by omega) (by rw [show p + 1 - 1 = p from rfl, BB.out.1, BB.out.2]))⟩
            case round =>
              obtain ⟨kk, k2, q2, dk, rfl, rfl, g1, hle, hg2, hwr, hI⟩ := hrel; have hkk := hI.lt; have hds := hI.size
              have hHk : HoldsK encS8 2 wr blk off dk := by rw [hwr]; exact holdsK_putRowK encS8 2 _ blk off d dk (holdsK_ahead encS8 2 w q2 blk off d HH.out) hds
              have W2 : Aside (wr = putRowK encS8 2 (Sort.ahead w q2) blk off dk) := hwr; have I2 : Aside (CompInv d (p + 1 + k2) kk dk) := hI; clear hwr
              by_cases hlt2 : p + 1 + k2 < d.size
              · obtain ⟨r, rfl⟩ : ∃ r, k2 = r + 1 := ⟨k2 - 1, by omega⟩
                obtain ⟨cm, cmb, _, _⟩ := HoldsK.two hHk (show p + 1 + (r + 1) < dk.size by omega); obtain ⟨cp, cpb, _, _⟩ := HoldsK.two hHk (show p + 1 + r < dk.size by omega); obtain ⟨ck, ckb, fk, fkb⟩ := HoldsK.two hHk (show kk < dk.size by omega); rw [hI.high (p + 1 + (r + 1)) (by omega), show off + (p + 1 + (r + 1)) * 2 = off + (p + 1) * 2 + (r + 1) * 2 by omega] at cm cmb; rw [hI.high (p + 1 + r) (by omega), show off + (p + 1 + r) * 2 = off + (p + 1) * 2 + r * 2 by omega] at cp cpb; clear hHk hI; generalize h1 : d[p + 1 + (r + 1)]! = u at cm cmb; generalize h0 : d[p + 1 + r]! = v at cp cpb; have C := And.intro h1 h0; clear h1 h0; obtain ⟨⟨u1, u2⟩, hu⟩ := u; obtain ⟨⟨v1, v2⟩, hv⟩ := v
                dsimp only at cm cmb cp cpb
                generalize dk[kk]!.1.1 = o1 at ck; generalize dk[kk]!.1.2 = o2 at ckb; have CC : Aside _ := C; clear C
                by_cases e1 : u1 = v1
                · by_cases e2 : u2 = v2
                  · subst e1
                    subst e2
                    go_wp2_with fail
                    go_region
                    go_wp2
                    go_roundg (d.size - (p + 1 + (r + 1 + 1)))
                    case measure => omega
                    case rel => exact ⟨kk, r + 1 + 1, q2 + 1, dk, rfl, by go_num, by omega, by omega, Nat.le_refl _, by rw [W2.out]; rfl, I2.out.skip (keeps_neg (by omega) (by rw [show p + 1 + (r + 1) - 1 = p + 1 + r from rfl, CC.out.1, CC.out.2]))⟩
                  · subst e1
                    go_wp2_with fail
                    go_region
                    go_wp2
                    go_roundg (d.size - (p + 1 + (r + 1 + 1)))
                    case measure => omega
                    case rel => exact ⟨kk + 1, r + 1 + 1, q2 + 1, dk.setIfInBounds kk ⟨(u1, u2), hu⟩, by go_num, by go_num, by omega, by omega, Nat.le_refl _, store2 (by omega) W2.out ⟨(u1, u2), hu⟩, by have := I2.out.keep hlt2 (keeps_pos (by rw [show p + 1 + (r + 1) - 1 = p + 1 + r from rfl, CC.out.1, CC.out.2]; intro e; exact e2 (congrArg (fun z => z.1.2) e))); rwa [CC.out.1] at this⟩
                · go_wp2_with fail
                  go_region
                  go_wp2
                  go_roundg (d.size - (p + 1 + (r + 1 + 1)))
                  case measure => omega
                  case rel => exact ⟨kk + 1, r + 1 + 1, q2 + 1, dk.setIfInBounds kk ⟨(u1, u2), hu⟩, by go_num, by go_num, by omega, by omega, Nat.le_refl _, store2 (by omega) W2.out ⟨(u1, u2), hu⟩, by have := I2.out.keep hlt2 (keeps_pos (by rw [show p + 1 + (r + 1) - 1 = p + 1 + r from rfl, CC.out.1, CC.out.2]; intro e; exact e1 (congrArg (fun z => z.1.1) e))); rwa [CC.out.1] at this⟩
              · have hend : p + 1 + k2 = d.size := by omega
                have hcl : ∀ ty, (Builtin.clear_ #[29] ty #[.slice (some ⟨blk, off + kk * 2, none⟩) (d.size - kk) (cap - kk)]).run Try.prog wr = .ok (.tuple #[]) (wr.setCells blk (off + kk * 2) (List.replicate ((d.size - kk) * 2) (.int .i8 0))) :=
                  fun ty => run_clear_two wr 29 55 ty (.int .i8 0) (.agg #[.int .i8 0, .int .i8 0]) (by kernel_rfl) (fun w => by rfl) rfl rfl blk (off + kk * 2) _ _ (by omega)
                    (fun j hj => by
                      obtain ⟨a, b, _, _⟩ := HoldsK.two hHk (show kk + j / 2 < dk.size by omega)
                      rcases Nat.mod_two_eq_zero_or_one j with h | h
                      · rw [show off + kk * 2 + j = off + (kk + j / 2) * 2 by omega, a]; rfl
                      · rw [show off + kk * 2 + j = off + (kk + j / 2) * 2 + 1 by omega, b]; rfl)
                    (fun j hj => by
                      obtain ⟨_, _, a, b⟩ := HoldsK.two hHk (show kk + j / 2 < dk.size by omega)
                      rcases Nat.mod_two_eq_zero_or_one j with h | h
                      · rw [show off + kk * 2 + j = off + (kk + j / 2) * 2 by omega, a]
                      · rw [show off + kk * 2 + j = off + (kk + j / 2) * 2 + 1 by omega, b])
                clear hHk hI
                go_wp2
                go_ret
                have hI := I2.out; rw [hend] at hI; refine ⟨by rw [hI.len]; rfl, q2, default, ?_⟩; rw [hI.len, ← hI.done default, ← clear2 _ _ _ _ _ _ (by omega), ← W2.out]
          · subst e1
            go_wp2_with fail
            go_region
            go_wp2
            go_roundg (d.size - (p + 1 + 1))
            case measure => omega
            case rel => exact ⟨p + 1 + 1, q + 1, by omega, by omega, Nat.le_refl _, by go_num, rfl, DN.out (Or.inr e2)⟩
        · go_wp2_with fail
          go_region
          go_wp2
          go_roundg (d.size - (p + 1 + 1))
          case measure => omega
          case rel => exact ⟨p + 1 + 1, q + 1, by omega, by omega, Nat.le_refl _, by go_num, rfl, DN.out (Or.inl e1)⟩
      · have : k = d.size := by omega
        subst this; have HH : Aside _ := hH; clear hH
        go_wp2
        go_ret
        obtain ⟨e1, e2⟩ := HS.out q hall; exact ⟨by rw [e1]; rfl, q, _, e2⟩
end Go.Proofs
end
