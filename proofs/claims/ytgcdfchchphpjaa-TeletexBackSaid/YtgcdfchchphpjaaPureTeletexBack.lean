/- Proved here: for every s of 300 scalars at most the statement TeletexBack returns true; for longer ones, too. No condition. -/
import Derived.Test.YtgcdfchchphpjaaM12
import Derived.Test.YtgcdfchchphpjaaLRead
import Derived.Test.YtgcdfchchphpjaaHWakes18
namespace Go.Proofs.Ytgcdfchchphpjaa.Pure
set_option linter.unusedVariables false
set_option linter.unusedSimpArgs false
open Go.RowKit Go.Proofs.Ytgcdfchchphpjaa.M Go.Proofs.YtgcdfchchphpjaaW.PrintWords Go.Proofs.YtgcdfchchphpjaaW.PrintLast

theorem TeletexBack : sobriquetlaw18_TeletexBack.Pure := by
  intro s _ _ _
  refine ⟨200000, ?_⟩
  unfold sobriquetlaw18_TeletexBack.f
  by_cases hlen : (s.length : Int) > 300
  · rw [if_pos hlen]
  · rw [if_neg hlen]
    have hP : teletex_Put.f s = some (putT 102 [] 0 s) := by rw [teletex_Put.f, if_pos (by omega)]
    rw [hP, Option.bind_some]
    by_cases c : (putT 102 [] 0 s).2.2 = 0
    · obtain ⟨⟨b, a, e⟩, hq⟩ : ∃ x, putT 102 [] 0 s = x := ⟨_, rfl⟩
      rw [hq] at c hP
      rw [hq]
      dsimp only at c ⊢
      subst c
      rw [if_pos rfl, put_read s b a (by omega) hP 200000 (by omega), Option.bind_some]
      dsimp only
      rw [if_pos rfl, Ints_f _ _ 200000 (by omega) (by omega), Option.bind_some, if_pos (by simp), wakes18 110000 (by decide)]
      rfl
    · obtain ⟨n, hn, h1, h2, h3⟩ := putT_falls s 102 [] 0 (by decide) c
      rw [if_neg c, h1]
      dsimp only
      rw [if_pos rfl, if_pos (by omega), if_pos (by omega), if_pos (by omega), Nat.zero_add, teletex_Has.f, Option.bind_some, scalarS_ok 102 _ (by decide), h2, if_neg Bool.false_ne_true, if_pos (show (([] : List Int).length : Int) = 0 from rfl), wakes18 110000 (by decide)]
      rfl
end Go.Proofs.Ytgcdfchchphpjaa.Pure
