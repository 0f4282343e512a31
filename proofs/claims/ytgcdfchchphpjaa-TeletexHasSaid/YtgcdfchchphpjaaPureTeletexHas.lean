/- Proved here: for every s of 300 scalars at most the statement TeletexHas returns true; for longer ones, too. No condition. -/
import Derived.Test.YtgcdfchchphpjaaM14
import Derived.Test.YtgcdfchchphpjaaLRead
import Derived.Test.YtgcdfchchphpjaaHWakes18
namespace Go.Proofs.Ytgcdfchchphpjaa.Pure
set_option linter.unusedVariables false
set_option linter.unusedSimpArgs false
open Go.RowKit Go.Proofs.Ytgcdfchchphpjaa.M Go.Proofs.YtgcdfchchphpjaaW.PrintWords Go.Proofs.YtgcdfchchphpjaaW.PrintLast

theorem Has_f (c : Int) : teletex_Has.f c = some (okS c) := by rw [teletex_Has.f, scalarS_ok 102 c (by decide)]
/-- x is the first place from j on that has no form, or the length. -/
def FirstBad (s : List Int) (j : Nat) (x : Int) : Prop :=
  (x = (s.length : Int) ∧ ∀ m : Nat, j ≤ m → m < s.length → okS (rd s (m : Int)) = true) ∨
  (∃ n : Nat, x = (n : Int) ∧ j ≤ n ∧ n < s.length ∧ okS (rd s (n : Int)) = false ∧ ∀ m : Nat, j ≤ m → m < n → okS (rd s (m : Int)) = true)
theorem has_end (s : List Int) (hl : s.length ≤ 300) (k : Nat) (hk : 110001 ≤ k) (x y : Int) (hy : y < 0) (h : FirstBad s 0 x) : sobriquetlaw18_TeletexHas.l0 k s x y = some true := by
  obtain ⟨k, rfl⟩ : ∃ m, k = m + 1 := ⟨k - 1, by omega⟩
  have hP : teletex_Put.f s = some (putT 102 [] 0 s) := by rw [teletex_Put.f, if_pos (by omega)]
  simp only [sobriquetlaw18_TeletexHas.l0]
  rw [if_neg (by omega), hP, Option.bind_some]
  rcases h with ⟨rfl, h⟩ | ⟨n, rfl, _, hn, hb, h⟩
  · have := putT_fits s 102 [] 0 (by decide) (fun x hx => by
      obtain ⟨m, hm, rfl⟩ := List.getElem_of_mem hx
      rw [← rd_at s m hm]
      exact h m (by omega) hm)
    rw [if_neg (by omega), if_pos this.1, if_pos this.2, wakes18 110000 (by decide)]
    rfl
  · have hne : (putT 102 [] 0 s).2.2 ≠ 0 := fun e => by
      have := putT_all s 102 [] 0 (by decide) e _ (List.getElem_mem hn)
      rw [← rd_at s n hn, hb] at this
      cases this
    obtain ⟨n2, hn2, h1, h2, h3⟩ := putT_falls s 102 [] 0 (by decide) hne
    have e : n2 = n := by
      rcases Nat.lt_trichotomy n2 n with c | c | c
      · have := h n2 (by omega) c
        rw [h2] at this
        cases this
      · exact c
      · have := h3 n c
        rw [hb] at this
        cases this
    rw [h1, e, if_pos (by omega)]
    dsimp only
    rw [if_pos rfl, if_pos (by omega), wakes18 110000 (by decide)]
    rfl
theorem has_l0 (s : List Int) (hl : s.length ≤ 300) : ∀ (j k : Nat) (x : Int), j + 110001 ≤ k → j ≤ s.length → FirstBad s j x → sobriquetlaw18_TeletexHas.l0 k s x ((j : Int) - 1) = some true
  | 0, k, x, hk, hj, h => has_end s hl k (by omega) x _ (by omega) h
  | j + 1, k, x, hk, hj, h => by
    obtain ⟨k, rfl⟩ : ∃ m, k = m + 1 := ⟨k - 1, by omega⟩
    have e1 : ((j + 1 : Nat) : Int) - 1 = (j : Int) := by omega
    have e2 : wrap64 ((j : Int) - 1) = (j : Int) - 1 := wrap_id _ (by omega) (by omega)
    simp only [sobriquetlaw18_TeletexHas.l0]
    rw [e1, if_pos (by omega), if_pos (by omega), if_pos (by omega), Has_f, Option.bind_some, e2]
    by_cases c : okS (rd s (j : Int)) = true
    · rw [if_pos c]
      refine has_l0 s hl j k x (by omega) (by omega) ?_
      rcases h with ⟨rfl, h⟩ | ⟨n, rfl, hn1, hn, hb, h⟩
      · exact .inl ⟨rfl, fun m h1 h2 => by
        rcases Nat.eq_or_lt_of_le h1 with rfl | h3
        · exact c
        · exact h m h3 h2⟩
      · exact .inr ⟨n, rfl, by omega, hn, hb, fun m h1 h2 => by
        rcases Nat.eq_or_lt_of_le h1 with rfl | h3
        · exact c
        · exact h m h3 h2⟩
    · rw [if_neg c]
      exact has_l0 s hl j k _ (by omega) (by omega) (.inr ⟨j, rfl, Nat.le_refl _, by omega, by simpa using c, fun m h1 h2 => by omega⟩)

theorem TeletexHas : sobriquetlaw18_TeletexHas.Pure := by
  intro s _ _ _
  refine ⟨200000, ?_⟩
  unfold sobriquetlaw18_TeletexHas.f
  by_cases hlen : (s.length : Int) > 300
  · rw [if_pos hlen]
  · rw [if_neg hlen, wrap_id _ (by omega) (by omega)]
    exact has_l0 s (by omega) s.length 200000 _ (by omega) (Nat.le_refl _) (.inl ⟨rfl, fun m h1 h2 => by omega⟩)
end Go.Proofs.Ytgcdfchchphpjaa.Pure
