/- Proved here: for every at and b the statement CsetsFinals returns true. No condition. -/
import Derived.Test.YtpifdcdbkpidpaaM9
import Derived.Test.YtpifdcdbkpidpaaLCsets
namespace Go.Proofs.Ytpifdcdbkpidpaa.Pure
set_option linter.unusedVariables false
set_option linter.unusedSimpArgs false
open Go.RowKit Go.Proofs.Ytpifdcdbkpidpaa.M Go.Proofs.YtpifdcdbkpidpaaW.PrintWords Go.Proofs.YtpifdcdbkpidpaaW.PrintLast

theorem u64_tmod (a : Int) (m : Nat) (hm : 0 < m) (hl : m ≤ 1000000000) : ∃ q : Nat, q < m ∧ wrap64 (Int.tmod (IntKind.u64.wrap a) (m : Int)) = (q : Int) := by
  have h0 : 0 ≤ IntKind.u64.wrap a := by simp only [IntKind.wrap, IntKind.bits, IntKind.signed]; simp; omega
  have e : Int.tmod (IntKind.u64.wrap a) (m : Int) = IntKind.u64.wrap a % (m : Int) := Int.tmod_eq_emod_of_nonneg h0
  have h1 : 0 ≤ IntKind.u64.wrap a % (m : Int) := Int.emod_nonneg _ (by omega)
  have h2 : IntKind.u64.wrap a % (m : Int) < (m : Int) := Int.emod_lt_of_pos _ (by omega)
  refine ⟨(IntKind.u64.wrap a % (m : Int)).toNat, by omega, ?_⟩
  rw [e, wrap_id _ (by omega) (by omega)]
  omega

theorem byL_tells (f : Int) (w : Bool) : ∀ (l : List Int), (byL f w l).2 = true → finalOf (byL f w l).1 = f ∧ (((byL f w l).1 == 87) == w) = true
  | [], h => by simp [byL] at h
  | x :: t, h => by
    unfold byL at h ⊢
    by_cases c : finalOf x = f ∧ ((x == 87) == w) = true
    · rw [if_pos c]; exact c
    · rw [if_neg c] at h ⊢; exact byL_tells f w t h

def setFacts (s : Int) : Bool := decide (48 ≤ finalOf s) && decide (finalOf s ≤ 126) && decide (byL (finalOf s) (s == 87) setsL = (s, true))
theorem sets_facts : (setsL.all setFacts) = true := by decide +kernel
theorem by_zero : byL 0 false setsL = (0, false) := by decide +kernel

theorem finals_end (b : Int) (k : Nat) (hk : 3000 ≤ k) (s : Int) (hs : setFacts s = true) :
    ((api_Final.f s).bind fun t487 => ((csets_Wide.f s).bind fun t488 => ((csets_ByFinal.f k t487 t488).bind fun bt489 => ((csets_ByFinal.f k 0 false).bind fun bt491 => ((csets_ByFinal.f k b false).bind fun bt493 => (if t487 ≥ 48 then (if t487 ≤ 126 then (if bt489.2 = true then (if bt489.1 = s then (if bt491.2 = true then (some false) else (if bt493.2 = true then ((api_Final.f bt493.1).bind fun t495 => (if t495 = b then ((csets_Wide.f bt493.1).bind fun t496 => (if t496 = true then (some false) else ((sobriquetlaw16_wakes.f k).bind fun t497 => (some t497)))) else (some false))) else ((sobriquetlaw16_wakes.f k).bind fun t498 => (some t498)))) else (some false)) else (some false)) else (some false)) else (some false))))))) = some true := by
  unfold setFacts at hs
  simp only [Bool.and_eq_true, decide_eq_true_eq] at hs
  obtain ⟨⟨h1, h2⟩, h3⟩ := hs
  unfold csets_Wide.f
  rw [Final_f, Option.bind_some, Option.bind_some, ByFinal_f _ _ k (by omega), h3, Option.bind_some, ByFinal_f _ _ k (by omega), by_zero, Option.bind_some, ByFinal_f _ _ k (by omega), Option.bind_some, if_pos h1, if_pos h2, if_pos rfl, if_pos rfl, if_neg Bool.false_ne_true, wakes16 k hk]
  have ht := byL_tells b false setsL
  generalize byL b false setsL = r at *
  by_cases c : r.2 = true
  · obtain ⟨e1, e2⟩ := ht c
    rw [if_pos c, Final_f, Option.bind_some, if_pos e1, Option.bind_some]
    have e3 : ¬ (r.1 == 87) = true := by
      intro h
      rw [h] at e2
      exact absurd e2 (by decide)
    rw [if_neg e3]
    rfl
  · rw [if_neg c]
    rfl

theorem CsetsFinals : sobriquetlaw16_CsetsFinals.Pure := by
  intro a0 a1 _ _
  refine ⟨3000, ?_⟩
  obtain ⟨q, hq, e⟩ := u64_tmod a0 7 (by omega) (by omega)
  simp only [Int.cast_ofNat_Int] at e
  have hw : IntKind.u64.wrap (((([102, 6, 126, 144, 138, 87] : List Int) ++ [103] : List Int).length : Int)) = 7 := by decide
  unfold sobriquetlaw16_CsetsFinals.f api_Sets.f
  rw [Option.bind_some, if_pos (by decide), Option.bind_some, hw, if_neg (by decide), e, if_pos (by omega), if_pos (by show (q : Int) < 7; omega)]
  have hs : setFacts (rd (([102, 6, 126, 144, 138, 87] : List Int) ++ [103] : List Int) (q : Int)) = true := by
    rw [show (([102, 6, 126, 144, 138, 87] : List Int) ++ [103] : List Int) = setsL from rfl, rd_at setsL q hq]
    exact List.all_eq_true.1 sets_facts _ (List.getElem_mem _)
  exact finals_end a1 3000 (by omega) _ hs
end Go.Proofs.Ytpifdcdbkpidpaa.Pure
