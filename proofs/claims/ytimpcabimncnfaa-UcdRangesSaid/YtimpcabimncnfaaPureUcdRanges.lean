/- Proved here: for every which, at and n the statement UcdRanges returns true. No condition. -/
import Derived.Test.YtimpcabimncnfaaM7
import Derived.Test.YtimpcabimncnfaaLUcd
namespace Go.Proofs.Ytimpcabimncnfaa.Pure
set_option linter.unusedVariables false
set_option linter.unusedSimpArgs false
open Go.RowKit Go.Proofs.Ytimpcabimncnfaa.M Go.Proofs.YtimpcabimncnfaaW.PrintWords Go.Proofs.YtimpcabimncnfaaW.PrintLast

theorem u64_nat (m : Nat) (h : m ≤ 1000000000) : IntKind.u64.wrap (m : Int) = (m : Int) := by simp only [IntKind.wrap, IntKind.bits, IntKind.signed]; simp; omega
theorem u64_mod (a : Int) (m : Nat) (hm : 0 < m) (hl : m ≤ 1000000000) : ∃ q : Nat, q < m ∧ Int.tmod (IntKind.u64.wrap a) (m : Int) = (q : Int) := by
  have h0 : 0 ≤ IntKind.u64.wrap a := by simp only [IntKind.wrap, IntKind.bits, IntKind.signed]; simp; omega
  have e : Int.tmod (IntKind.u64.wrap a) (m : Int) = IntKind.u64.wrap a % (m : Int) := Int.tmod_eq_emod_of_nonneg h0
  have h1 : 0 ≤ IntKind.u64.wrap a % (m : Int) := Int.emod_nonneg _ (by omega)
  have h2 : IntKind.u64.wrap a % (m : Int) < (m : Int) := Int.emod_lt_of_pos _ (by omega)
  exact ⟨(IntKind.u64.wrap a % (m : Int)).toNat, by omega, by rw [e]; omega⟩

/-- A table's ranges lie apart, in order, and are scalars. -/
def goodT : List S26 → Bool
  | [] => true
  | x :: t => decide (0 ≤ x.f0 ∧ x.f0 ≤ x.f1 ∧ x.f1 ≤ 1114111 ∧ (x.f1 < 55296 ∨ 57343 < x.f0) ∧ 0 < x.f2) && (t.all fun y => decide (x.f1 < y.f0)) && goodT t
theorem good_flat : ∀ (l : List S26), goodT l = true → ∀ r ∈ l, (0 ≤ r.f0 ∧ r.f0 ≤ r.f1 ∧ r.f1 ≤ 1114111 ∧ (r.f1 < 55296 ∨ 57343 < r.f0) ∧ 0 < r.f2) ∧ ∀ c, r.f0 ≤ c → c ≤ r.f1 → flat l c = r.f2
  | [], _, r, hr => by cases hr
  | x :: t, h, r, hr => by
    simp only [goodT, Bool.and_eq_true, decide_eq_true_eq] at h
    obtain ⟨⟨h1, h2⟩, h3⟩ := h
    rcases List.mem_cons.1 hr with rfl | hr
    · refine ⟨h1, fun c hc1 hc2 => ?_⟩
      unfold flat
      rw [if_pos hc1, if_pos hc2]
    · have h4 := of_decide_eq_true (List.all_eq_true.1 h2 r hr)
      obtain ⟨h5, h6⟩ := good_flat t h3 r hr
      refine ⟨h5, fun c hc1 hc2 => ?_⟩
      unfold flat
      rw [if_pos (by omega), if_neg (by omega)]
      exact h6 c hc1 hc2
theorem good_class (c : Int) (r : S26) (hr : r ∈ api_Classes.tbl) (h1 : r.f0 ≤ c) (h2 : c ≤ r.f1) : classOf c = r.f2 := by
  obtain ⟨h3, h4⟩ := good_flat api_Classes.tbl (by decide +kernel) r hr
  unfold classOf
  rw [if_pos (by unfold sca; exact decide_eq_true (by omega)), h4 c h1 h2]
theorem good_has (t : List S26) (ht : goodT t = true) (c : Int) (r : S26) (hr : r ∈ t) (h1 : r.f0 ≤ c) (h2 : c ≤ r.f1) : hasOf t c = true := by
  obtain ⟨h3, h4⟩ := good_flat t ht r hr
  unfold hasOf
  rw [h4 c h1 h2, show sca c = true by unfold sca; exact decide_eq_true (by omega)]
  simp
  omega

theorem ranges_j0 (k : Nat) (hk : 3000 ≤ k) (a0 a1 a2 : Int) (T : List S26) (hT : goodT T = true) (hT0 : 0 < T.length) (hT1 : T.length < 300) (w : Nat) (hw : Int.tmod (IntKind.u64.wrap a0) 5 = (w : Int))
    (hw2 : (w = 0 ∧ T = api_Classes.tbl) ∨ (w = 1 ∧ T = api_Assigned.tbl) ∨ (w = 2 ∧ T = api_Nothing.tbl) ∨ (w = 3 ∧ T = api_Spaces.tbl) ∨ (w = 4 ∧ T = api_Prohibited.tbl)) : sobriquetlaw06_UcdRanges.j0 k a0 a1 a2 T = some true := by
  obtain ⟨k, rfl⟩ : ∃ m, k = m + 1 := ⟨k - 1, by omega⟩
  obtain ⟨i, hi, ei⟩ := u64_mod a1 T.length hT0 (by omega)
  have er : rd_T26 T (i : Int) = T[i] := by simp [rd_T26, List.getD_eq_getElem?_getD, hi]
  have hr : T[i] ∈ T := List.getElem_mem _
  obtain ⟨h5, h6⟩ := good_flat T hT T[i] hr
  simp only [sobriquetlaw06_UcdRanges.j0]
  rw [u64_nat T.length (by omega), ei, wrap_id (i : Int) (by omega) (by omega), er]
  generalize T[i] = r at *
  obtain ⟨m, hm⟩ : ∃ m : Nat, r.f1 - r.f0 + 1 = (m : Int) := ⟨(r.f1 - r.f0 + 1).toNat, by omega⟩
  rw [wrap_id (r.f1 - r.f0) (by omega) (by omega), wrap_id (r.f1 - r.f0 + 1) (by omega) (by omega), hm, u64_nat m (by omega)]
  obtain ⟨q, hq, eq⟩ := u64_mod a2 m (by omega) (by omega)
  rw [eq, wrap_id (q : Int) (by omega) (by omega), wrap_id (r.f0 + (q : Int)) (by omega) (by omega), hw]
  have hc1 : r.f0 ≤ r.f0 + (q : Int) := by omega
  have hc2 : r.f0 + (q : Int) ≤ r.f1 := by omega
  generalize r.f0 + (q : Int) = c at *
  rw [Class_f _ k (by omega), Assigned_f _ k (by omega), Nothing_f _ k (by omega), Space_f _ k (by omega), Prohibited_f _ k (by omega), wakes06 k (by omega)]
  rw [if_neg (by omega), if_neg (by omega), if_pos (by omega), if_pos (by omega), if_neg (by omega)]
  simp only [Option.bind_some]
  rcases hw2 with ⟨rfl, rfl⟩ | ⟨rfl, rfl⟩ | ⟨rfl, rfl⟩ | ⟨rfl, rfl⟩ | ⟨rfl, rfl⟩
  · rw [if_pos (by omega), if_pos (good_class c r hr hc1 hc2)]
  · rw [if_neg (by omega), if_pos (by omega), if_pos (good_has _ hT c r hr hc1 hc2)]
  · rw [if_neg (by omega), if_neg (by omega), if_pos (by omega), if_pos (good_has _ hT c r hr hc1 hc2)]
  · rw [if_neg (by omega), if_neg (by omega), if_neg (by omega), if_pos (by omega), if_pos (good_has _ hT c r hr hc1 hc2)]
  · rw [if_neg (by omega), if_neg (by omega), if_neg (by omega), if_neg (by omega), if_pos (good_has _ hT c r hr hc1 hc2)]

theorem UcdRanges : sobriquetlaw06_UcdRanges.Pure := by
  intro a0 a1 a2 _ _ _
  refine ⟨3000, ?_⟩
  obtain ⟨w, hw5, hw0⟩ := u64_mod a0 5 (by omega) (by omega)
  have hw : Int.tmod (IntKind.u64.wrap a0) 5 = (w : Int) := hw0
  unfold sobriquetlaw06_UcdRanges.f
  simp only [api_Classes.f, api_Assigned.f, api_Nothing.f, api_Spaces.f, api_Prohibited.f, Option.bind_some]
  rw [hw]
  by_cases h1 : w = 1
  · rw [if_pos (by omega)]
    exact ranges_j0 3000 (by omega) a0 a1 a2 _ (by decide +kernel) (by decide) (by decide) w hw (.inr (.inl ⟨h1, rfl⟩))
  · rw [if_neg (by omega)]
    by_cases h2 : w = 2
    · rw [if_pos (by omega)]
      exact ranges_j0 3000 (by omega) a0 a1 a2 _ (by decide +kernel) (by decide) (by decide) w hw (.inr (.inr (.inl ⟨h2, rfl⟩)))
    · rw [if_neg (by omega)]
      by_cases h3 : w = 3
      · rw [if_pos (by omega)]
        exact ranges_j0 3000 (by omega) a0 a1 a2 _ (by decide +kernel) (by decide) (by decide) w hw (.inr (.inr (.inr (.inl ⟨h3, rfl⟩))))
      · rw [if_neg (by omega)]
        by_cases h4 : w = 4
        · rw [if_pos (by omega)]
          exact ranges_j0 3000 (by omega) a0 a1 a2 _ (by decide +kernel) (by decide) (by decide) w hw (.inr (.inr (.inr (.inr ⟨h4, rfl⟩))))
        · rw [if_neg (by omega)]
          exact ranges_j0 3000 (by omega) a0 a1 a2 _ (by decide +kernel) (by decide) (by decide) w hw (.inl ⟨by omega, rfl⟩)
end Go.Proofs.Ytimpcabimncnfaa.Pure
