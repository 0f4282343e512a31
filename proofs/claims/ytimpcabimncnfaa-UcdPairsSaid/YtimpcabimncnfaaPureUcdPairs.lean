/- Proved here: for every a and b the statement UcdPairs returns true. No condition. -/
import Derived.Test.YtimpcabimncnfaaM9
import Derived.Test.YtimpcabimncnfaaLUcd
namespace Go.Proofs.Ytimpcabimncnfaa.Pure
set_option linter.unusedVariables false
set_option linter.unusedSimpArgs false
open Go.RowKit Go.Proofs.Ytimpcabimncnfaa.M Go.Proofs.YtimpcabimncnfaaW.PrintWords Go.Proofs.YtimpcabimncnfaaW.PrintLast

theorem pairIn_tells (a b : Int) : ∀ (l : List S41) (n : Int) (y : Bool), pairIn a b l n y = (n, y) ∨ ∃ x ∈ l, okPair a b x = true ∧ pairIn a b l n y = (x.f0, true)
  | [], n, y => .inl rfl
  | x :: t, n, y => by
    unfold pairIn
    by_cases h : okPair a b x = true
    · rw [if_pos h]
      rcases pairIn_tells a b t x.f0 true with e | ⟨z, hz, hok, e⟩
      · exact .inr ⟨x, List.mem_cons_self, h, e⟩
      · exact .inr ⟨z, List.mem_cons_of_mem _ hz, hok, e⟩
    · rw [if_neg h]
      rcases pairIn_tells a b t n y with e | ⟨z, hz, hok, e⟩
      · exact .inl e
      · exact .inr ⟨z, List.mem_cons_of_mem _ hz, hok, e⟩

def pairFacts (x : S41) : Bool := decide (look41 canonT x.f0 = took x.f1 x.f2) && decide (look43 compatT x.f0 = []) && sca x.f0
theorem canon_facts : (canonT.all pairFacts) = true := by decide +kernel

theorem UcdPairs : sobriquetlaw06_UcdPairs.Pure := by
  intro a0 a1 _ _
  refine ⟨3000, ?_⟩
  unfold sobriquetlaw06_UcdPairs.f
  rw [Pair_f _ _ 3000 (by omega)]
  simp only [Option.bind_some]
  unfold pairOf
  rcases pairIn_tells a0 a1 canonT 0 false with e | ⟨x, hx, hok, e⟩
  · rw [e, wakes06 3000 (by omega)]
    rfl
  · rw [e]
    have hf := List.all_eq_true.1 canon_facts x hx
    unfold pairFacts at hf
    simp only [Bool.and_eq_true, decide_eq_true_eq] at hf
    obtain ⟨⟨h1, h2⟩, h3⟩ := hf
    unfold okPair at hok
    simp only [Bool.and_eq_true, decide_eq_true_eq, Bool.not_eq_true', decide_eq_false_iff_not] at hok
    obtain ⟨⟨⟨⟨⟨k1, k2⟩, k3⟩, k4⟩, k5⟩, k6⟩ := hok
    have c1 : classOf x.f0 = 0 := by unfold classOf; rw [k5]; split <;> rfl
    have c2 : classOf a0 = 0 := by unfold classOf; rw [← k1, k6]; split <;> rfl
    simp only [ucd_Canon.f, ucd_Compat.f, Option.bind_some]
    rw [h1, h2, k1, k2, Class_f _ 3000 (by omega), Class_f _ 3000 (by omega), c1, c2, Scalar_f, h3, wakes06 3000 (by omega)]
    have ht : took a0 a1 = [a0, a1] := if_neg k3
    rw [ht, Ints_f _ _ 3000 (by simp) (by simp)]
    simp [k3]
end Go.Proofs.Ytimpcabimncnfaa.Pure
