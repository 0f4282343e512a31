/- Proved here, in plain Lean: sobriquetkeep.Ints tells whether two lists are the same. -/
import Derived.Test.YtgcdfchchphpjaaM11
import Derived.Test.YtgcdfchchphpjaaLUcd
namespace Go.Proofs.Ytgcdfchchphpjaa.M
set_option linter.unusedVariables false
set_option linter.unusedSimpArgs false
open Go.RowKit Go.Proofs.YtgcdfchchphpjaaW.PrintWords Go.Proofs.YtgcdfchchphpjaaW.PrintLast Go.Proofs.YtgcdfchchphpjaaW.PrintMore

theorem Ints_l0 (a b : List Int) (hl : a.length ≤ 1000000000) (hab : a.length = b.length) : ∀ (d k j : Nat), d < k → j + d = a.length → sobriquetkeep_Ints.l0 k a b (j : Int) = some (decide (a.drop j = b.drop j))
  | 0, k, j, hk, hj => by
    obtain ⟨k, rfl⟩ : ∃ m, k = m + 1 := ⟨k - 1, by omega⟩
    simp only [sobriquetkeep_Ints.l0]
    rw [if_neg (by omega), List.drop_eq_nil_of_le (by omega), List.drop_eq_nil_of_le (by omega)]
    rfl
  | d + 1, k, j, hk, hj => by
    obtain ⟨k, rfl⟩ : ∃ m, k = m + 1 := ⟨k - 1, by omega⟩
    have hlt : j < a.length := by omega
    have hlt2 : j < b.length := by omega
    simp only [sobriquetkeep_Ints.l0]
    rw [if_pos (by omega), if_pos (by omega), if_pos (by omega), rd_at a j hlt, rd_at b j hlt2, wrap_succ j (by omega), Ints_l0 a b hl hab d k (j + 1) (by omega) (by omega), List.drop_eq_getElem_cons hlt, List.drop_eq_getElem_cons hlt2]
    generalize a[j] = u
    generalize b[j] = v
    generalize a.drop (j + 1) = s
    generalize b.drop (j + 1) = t
    by_cases h : u = v
    · rw [if_pos h]
      simp [h]
    · rw [if_neg h]
      simp [h]
theorem Ints_f (a b : List Int) (k : Nat) (hl : a.length ≤ 1000000000) (hk : a.length < k) : sobriquetkeep_Ints.f k a b = some (decide (a = b)) := by
  unfold sobriquetkeep_Ints.f
  by_cases h : (a.length : Int) = (b.length : Int)
  · rw [if_pos h]
    have := Ints_l0 a b hl (by omega) a.length k 0 hk (by omega)
    simpa using this
  · rw [if_neg h]
    have : a ≠ b := fun e => h (by rw [e])
    simp [this]

end Go.Proofs.Ytgcdfchchphpjaa.M
