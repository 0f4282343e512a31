/- Proved here, in plain Lean: sobriquetkeep.Ints tells whether two lists are the same. -/
import Derived.Test.YtimpcabimncnfaaM6
import Derived.Test.YtimpcabimncnfaaM9
import Derived.Test.YtimpcabimncnfaaLUcd
namespace Go.Proofs.Ytimpcabimncnfaa.M
set_option linter.unusedVariables false
set_option linter.unusedSimpArgs false
open Go.RowKit Go.Proofs.YtimpcabimncnfaaW.PrintWords Go.Proofs.YtimpcabimncnfaaW.PrintLast Go.Proofs.YtimpcabimncnfaaW.PrintMore

theorem Ints_l0 (a b : List Int) (hl : a.length ≤ 1000000000) (hab : a.length = b.length) : ∀ (d k j : Nat), d < k → j + d = a.length → sobriquetkeep_Ints.l0 k a b (j : Int) = some (decide (a.drop j = b.drop j))
  | 0, k, j, hk, hj => by
    obtain ⟨k, rfl⟩ : ∃ m, k = m + 1 := ⟨k - 1, by omega⟩
    simp only [sobriquetkeep_Ints.l0]
    rw [if_neg (by omega), List.drop_eq_nil_of_le (by omega), List.drop_eq_nil_of_le (by omega)]
    rfl
  | d + 1, k, j, hk, hj => by
    obtain ⟨k, rfl⟩ : ∃ m, k = m + 1 := ⟨k - 1, by omega⟩
    have hlt : j < a.length := by omega
    have hlt2 : j < b.length := by omega
    simp only [sobriquetkeep_Ints.l0]
    rw [if_pos (by omega), if_pos (by omega), if_pos (by omega), rd_at a j hlt, rd_at b j hlt2, wrap_succ j (by omega), Ints_l0 a b hl hab d k (j + 1) (by omega) (by omega), List.drop_eq_getElem_cons hlt, List.drop_eq_getElem_cons hlt2]
    generalize a[j] = u
    generalize b[j] = v
    generalize a.drop (j + 1) = s
    generalize b.drop (j + 1) = t
    by_cases h : u = v
    · rw [if_pos h]
      simp [h]
    · rw [if_neg h]
      simp [h]
theorem Ints_f (a b : List Int) (k : Nat) (hl : a.length ≤ 1000000000) (hk : a.length < k) : sobriquetkeep_Ints.f k a b = some (decide (a = b)) := by
  unfold sobriquetkeep_Ints.f
  by_cases h : (a.length : Int) = (b.length : Int)
  · rw [if_pos h]
    have := Ints_l0 a b hl (by omega) a.length k 0 hk (by omega)
    simpa using this
  · rw [if_neg h]
    have : a ≠ b := fun e => h (by rw [e])
    simp [this]

theorem wakes06 (k : Nat) (hk : 2000 ≤ k) : sobriquetlaw06_wakes.f k = some true := by
  unfold sobriquetlaw06_wakes.f
  rw [Pair_f _ _ k hk, Pair_f _ _ k hk, Class_f _ k (by omega), Space_f _ k (by omega), Space_f _ k (by omega)]
  have e1 : pairOf 65 768 = (192, true) := by decide +kernel
  have e2 : pairOf 776 769 = (0, false) := by decide +kernel
  have e3 : classOf 768 = 230 := by decide +kernel
  have e4 : hasOf api_Spaces.tbl 32 = false := by decide +kernel
  have e5 : hasOf api_Spaces.tbl 160 = true := by decide +kernel
  have e6 : look43 foldsT 223 = [115, 115] := by decide +kernel
  have e7 : look41 canonT 8490 = [75] := by decide +kernel
  rw [e1, e2, e3, e4, e5]
  simp only [Option.bind_some, ucd_Fold.f, ucd_Canon.f, e6, e7, if_true, Bool.false_eq_true, if_false]
  rw [Ints_f _ _ k (by decide) (by show 2 < k; omega), Ints_f _ _ k (by decide) (by show 1 < k; omega)]
  rfl
end Go.Proofs.Ytimpcabimncnfaa.M
