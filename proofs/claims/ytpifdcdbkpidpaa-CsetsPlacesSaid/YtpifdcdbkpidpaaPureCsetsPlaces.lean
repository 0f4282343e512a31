/- Proved here: for every at the statement CsetsPlaces returns true. No condition. -/
import Derived.Test.YtpifdcdbkpidpaaM10
import Derived.Test.YtpifdcdbkpidpaaLCsets
namespace Go.Proofs.Ytpifdcdbkpidpaa.Pure
set_option linter.unusedVariables false
set_option linter.unusedSimpArgs false
open Go.RowKit Go.Proofs.Ytpifdcdbkpidpaa.M Go.Proofs.YtpifdcdbkpidpaaW.PrintWords Go.Proofs.YtpifdcdbkpidpaaW.PrintLast

theorem u64_tmod3 (a : Int) (m : Nat) (hm : 0 < m) (hl : m ≤ 1000000000) : ∃ q : Nat, q < m ∧ wrap64 (Int.tmod (IntKind.u64.wrap a) (m : Int)) = (q : Int) := by
  have h0 : 0 ≤ IntKind.u64.wrap a := by simp only [IntKind.wrap, IntKind.bits, IntKind.signed]; simp; omega
  have e : Int.tmod (IntKind.u64.wrap a) (m : Int) = IntKind.u64.wrap a % (m : Int) := Int.tmod_eq_emod_of_nonneg h0
  have h1 : 0 ≤ IntKind.u64.wrap a % (m : Int) := Int.emod_nonneg _ (by omega)
  have h2 : IntKind.u64.wrap a % (m : Int) < (m : Int) := Int.emod_lt_of_pos _ (by omega)
  refine ⟨(IntKind.u64.wrap a % (m : Int)).toNat, by omega, ?_⟩
  rw [e, wrap_id _ (by omega) (by omega)]
  omega

/-- What the table's entry x must have. -/
def codeFacts (l : List S34) (x : S34) : Bool :=
  decide (getL x.f0 x.f1 l = (x.f2, true)) && (findL x.f0 x.f2 l).2 && decide (getL x.f0 (findL x.f0 x.f2 l).1 l = (x.f2, true)) && ((x.f0 == 87) == decide (x.f1 > 255)) && sca x.f2 &&
    decide (33 ≤ x.f1 % 256 ∧ x.f1 % 256 ≤ 126) && decide (0 ≤ x.f1 ∧ x.f1 ≤ 32382) && decide (x.f1 > 255 → 33 ≤ x.f1 / 256)
set_option maxRecDepth 1000000 in
theorem codes_facts : (codesAll.all (codeFacts codesAll)) = true := by decide +kernel

theorem CsetsPlaces : sobriquetlaw16_CsetsPlaces.Pure := by
  intro a0 _
  refine ⟨3001, ?_⟩
  obtain ⟨q, hq, e⟩ := u64_tmod3 a0 583 (by omega) (by omega)
  simp only [Int.cast_ofNat_Int] at e
  have hl : codesAll.length = 583 := codes_len
  have hc : api_Codes.f = some codesAll := rfl
  have hA := codes_facts
  have hG : ∀ a b, csets_Get.f 3001 a b = some (getL a b codesAll) := fun a b => Get_f a b 3001 (by omega)
  have hF : ∀ a b, csets_Find.f 3001 a b = some (findL a b codesAll) := fun a b => Find_f a b 3001 (by omega)
  unfold sobriquetlaw16_CsetsPlaces.f
  rw [hc, Option.bind_some]
  clear hc
  generalize codesAll = l at *
  have hw : IntKind.u64.wrap ((l.length : Int)) = 583 := by rw [hl]; decide
  have hx : codeFacts l (rd_T34 l (q : Int)) = true := by
    rw [rdT_code l q (by omega)]
    exact List.all_eq_true.1 hA _ (List.getElem_mem _)
  rw [hw, e, if_neg (by omega), if_neg (by decide), if_pos (by omega), if_pos (by omega)]
  generalize rd_T34 l (q : Int) = x at *
  unfold codeFacts at hx
  simp only [Bool.and_eq_true, decide_eq_true_eq] at hx
  obtain ⟨⟨⟨⟨⟨⟨⟨h1, h2⟩, h3⟩, h4⟩, h5⟩, h6⟩, h7⟩, h8⟩ := hx
  rw [hG, h1, Option.bind_some, hF, Option.bind_some, hG, h3, Option.bind_some]
  have hj : sobriquetlaw16_CsetsPlaces.j0 3001 x.f2 true (findL x.f0 x.f2 l).2 x.f2 true (decide (x.f1 > 255)) false x.f0 x.f1 x.f2 = some true := by
    simp only [sobriquetlaw16_CsetsPlaces.j0]
    unfold csets_Wide.f
    rw [if_neg Bool.false_ne_true, if_pos trivial, if_pos trivial, if_pos h2, if_pos trivial, if_pos trivial, Option.bind_some, if_pos h4, Scalar_f, Option.bind_some, if_pos h5, wakes16 3000 (by omega)]
    rfl
  have m1 : Int.tmod x.f1 256 = x.f1 % 256 := Int.tmod_eq_emod_of_nonneg (by omega)
  have m2 : wrap64 (Int.tdiv x.f1 256) = x.f1 / 256 := by rw [Int.tdiv_eq_ediv_of_nonneg (by omega), wrap_id _ (by omega) (by omega)]
  have m3 : (decide (x.f1 % 256 > 126)) = false := by simp; omega
  rw [m1, m2, m3]
  by_cases c : x.f1 > 255
  · rw [if_pos c, if_neg (by omega), if_neg (by omega), if_neg (by omega)]
    exact hj
  · rw [if_neg c, if_neg (by omega)]
    exact hj
end Go.Proofs.Ytpifdcdbkpidpaa.Pure
