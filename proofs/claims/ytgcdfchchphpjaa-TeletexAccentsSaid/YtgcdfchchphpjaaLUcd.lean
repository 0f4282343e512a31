/- Proved here, in plain Lean: what the printed functions of ucd come to, for enough rounds. -/
import Derived.Test.YtgcdfchchphpjaaM4
import Derived.Test.YtgcdfchchphpjaaM3
import Derived.Test.YtgcdfchchphpjaaHUcd
namespace Go.Proofs.Ytgcdfchchphpjaa.M
set_option linter.unusedVariables false
set_option linter.unusedSimpArgs false
open Go.RowKit Go.Proofs.YtgcdfchchphpjaaW.PrintWords Go.Proofs.YtgcdfchchphpjaaW.PrintLast Go.Proofs.YtgcdfchchphpjaaW.PrintMore

theorem wrap_id (x : Int) (h0 : -9223372036854775808 ≤ x) (h1 : x ≤ 9223372036854775807) : wrap64 x = x := by unfold wrap64; omega
theorem wrap_succ (j : Nat) (h : j ≤ 1000000000000) : wrap64 ((j : Int) + 1) = ((j + 1 : Nat) : Int) := by rw [wrap_id _ (by omega) (by omega)]; omega

/-! ### ranges -/
def flat : List S84 → Int → Int
  | [], _ => 0
  | x :: t, c => if x.f0 ≤ c then (if c ≤ x.f1 then x.f2 else flat t c) else flat t c
theorem Flat_l0 (c : Int) (l : List S84) (hl : l.length ≤ 1000000) : ∀ (d k j : Nat), d < k → j + d = l.length → ranges_Flat.l0 k c l (l.length : Int) (j : Int) = some (flat (l.drop j) c)
  | 0, k, j, hk, hj => by
    obtain ⟨k, rfl⟩ : ∃ m, k = m + 1 := ⟨k - 1, by omega⟩
    simp only [ranges_Flat.l0]
    rw [if_neg (by omega), List.drop_eq_nil_of_le (by omega)]
    rfl
  | d + 1, k, j, hk, hj => by
    obtain ⟨k, rfl⟩ : ∃ m, k = m + 1 := ⟨k - 1, by omega⟩
    have hlt : j < l.length := by omega
    have e : rd_T84 l (j : Int) = l[j] := by simp [rd_T84, List.getD_eq_getElem?_getD, hlt]
    simp only [ranges_Flat.l0]
    rw [if_pos (by omega), if_pos (by omega), if_pos (by omega), e, wrap_succ j (by omega), Flat_l0 c l hl d k (j + 1) (by omega) (by omega), List.drop_eq_getElem_cons hlt]
    generalize l[j] = x
    generalize l.drop (j + 1) = t
    show _ = some (if x.f0 ≤ c then (if c ≤ x.f1 then x.f2 else flat t c) else flat t c)
    split
    · split <;> rfl
    · rfl
theorem Flat_f (l : List S84) (c : Int) (k : Nat) (hl : l.length ≤ 1000000) (hk : l.length < k) : ranges_Flat.f k l c = some (flat l c) := Flat_l0 c l hl l.length k 0 hk (by omega)

/-! ### two lists of numbers -/
theorem rd_at (l : List Int) (j : Nat) (h : j < l.length) : rd l (j : Int) = l[j] := by simp [rd, List.getD_eq_getElem?_getD, h]
/-! ### slices.Contains -/
theorem Index_l0 (x : Int) (l : List Int) (hl : l.length ≤ 1000000) : ∀ (d k j : Nat), d < k → j + d = l.length → ∃ r, slices_Index_int_int.l0 k l x (l.length : Int) (j : Int) = some r ∧ (0 ≤ r ↔ x ∈ l.drop j)
  | 0, k, j, hk, hj => by
    obtain ⟨k, rfl⟩ : ∃ m, k = m + 1 := ⟨k - 1, by omega⟩
    simp only [slices_Index_int_int.l0]
    rw [if_neg (by omega), List.drop_eq_nil_of_le (by omega)]
    exact ⟨_, rfl, by simp⟩
  | d + 1, k, j, hk, hj => by
    obtain ⟨k, rfl⟩ : ∃ m, k = m + 1 := ⟨k - 1, by omega⟩
    have hlt : j < l.length := by omega
    simp only [slices_Index_int_int.l0]
    rw [if_pos (by omega), if_pos (by omega), if_pos (by omega), rd_at l j hlt, wrap_succ j (by omega), List.drop_eq_getElem_cons hlt]
    obtain ⟨r, hr, hx⟩ := Index_l0 x l hl d k (j + 1) (by omega) (by omega)
    rw [hr]
    generalize l[j] = u
    generalize l.drop (j + 1) = t at *
    by_cases h : x = u
    · rw [if_pos h]
      exact ⟨_, rfl, by simp [h]⟩
    · rw [if_neg h]
      exact ⟨r, rfl, by rw [hx]; simp [h]⟩
theorem Contains_f (l : List Int) (x : Int) (k : Nat) (hl : l.length ≤ 1000000) (hk : l.length < k) : slices_Contains_int_int.f k l x = some (decide (x ∈ l)) := by
  obtain ⟨r, hr, hx⟩ := Index_l0 x l hl l.length k 0 hk (by omega)
  unfold slices_Contains_int_int.f slices_Index_int_int.f
  have hr' : slices_Index_int_int.l0 k l x (l.length : Int) 0 = some r := hr
  rw [hr']
  simp only [Option.bind_some, Option.some.injEq]
  rw [decide_eq_decide, ge_iff_le, hx, List.drop_zero]

/-! ### scalars, classes and properties -/
def sca (c : Int) : Bool := decide (0 ≤ c ∧ c ≤ 1114111 ∧ (c < 55296 ∨ 57343 < c))
def classOf (c : Int) : Int := if sca c = true then flat api_Classes.tbl c else 0
def hasOf (t : List S84) (c : Int) : Bool := sca c && decide (flat t c > 0)
/-! ### Pair -/
def exclL : List Int := [836, 2392, 2393, 64285, 64298, 64299]
def okPair (a b : Int) (x : S48) : Bool := decide (x.f1 = a) && decide (x.f2 = b) && !decide (b = 0) && !decide (x.f0 ∈ exclL) && decide (flat api_Classes.tbl x.f0 = 0) && decide (flat api_Classes.tbl x.f1 = 0)
def pairIn (a b : Int) : List S48 → Int → Bool → Int × Bool
  | [], n, y => (n, y)
  | x :: t, n, y => if okPair a b x = true then pairIn a b t x.f0 true else pairIn a b t n y
def pairOf (a b : Int) : Int × Bool := pairIn a b canonT 0 false
theorem Pair_l0 (a b : Int) (l : List S48) (hl : l.length ≤ 1000000) : ∀ (d k j : Nat) (n : Int) (y : Bool), d + 300 < k → j + d = l.length → ucd_Pair.l0 k a b n y l (l.length : Int) (j : Int) = some (pairIn a b (l.drop j) n y)
  | 0, k, j, n, y, hk, hj => by
    obtain ⟨k, rfl⟩ : ∃ m, k = m + 1 := ⟨k - 1, by omega⟩
    simp only [ucd_Pair.l0]
    rw [if_neg (by omega), List.drop_eq_nil_of_le (by omega)]
    rfl
  | d + 1, k, j, n, y, hk, hj => by
    obtain ⟨k, rfl⟩ : ∃ m, k = m + 1 := ⟨k - 1, by omega⟩
    have hlt : j < l.length := by omega
    have e : rd_T48 l (j : Int) = l[j] := by simp [rd_T48, List.getD_eq_getElem?_getD, hlt]
    have ih := fun n y => Pair_l0 a b l hl d k (j + 1) n y (by omega) (by omega)
    simp only [ucd_Pair.l0]
    rw [if_pos (by omega), if_pos (by omega), if_pos (by omega), e, wrap_succ j (by omega), List.drop_eq_getElem_cons hlt]
    generalize l[j] = x at *
    simp only [ih, api_Excluded.f, api_Classes.f, Option.bind_some]
    rw [Contains_f _ _ k (by decide) (by show 6 < k; omega), Flat_f _ _ k (by decide) (by have : api_Classes.tbl.length < 300 := by decide
                                                                                          omega), Flat_f _ _ k (by decide) (by have : api_Classes.tbl.length < 300 := by decide
                                                                                                                               omega)]
    simp only [Option.bind_some]
    show _ = some (if okPair a b x = true then pairIn a b (l.drop (j + 1)) x.f0 true else pairIn a b (l.drop (j + 1)) n y)
    unfold okPair exclL
    by_cases h1 : x.f1 = a
    · rw [if_pos h1]
      by_cases h2 : x.f2 = b
      · rw [if_pos h2]
        by_cases h3 : b = 0
        · rw [if_pos h3]
          simp [h3]
        · rw [if_neg h3]
          by_cases h4 : x.f0 ∈ ([836, 2392, 2393, 64285, 64298, 64299] : List Int)
          · rw [if_pos (decide_eq_true h4)]
            simp only [decide_eq_true h4, Bool.not_true, Bool.and_false, Bool.false_and, Bool.false_eq_true, if_false]
          · rw [if_neg (by rw [decide_eq_false h4]; simp)]
            by_cases h5 : flat api_Classes.tbl x.f0 = 0
            · rw [if_pos h5]
              by_cases h6 : flat api_Classes.tbl x.f1 = 0
              · rw [if_pos h6]
                simp only [decide_eq_true h1, decide_eq_true h2, decide_eq_false h3, decide_eq_false h4, decide_eq_true h5, decide_eq_true h6, Bool.not_false, Bool.and_true, if_true]
              · rw [if_neg h6]
                simp only [decide_eq_false h6, Bool.and_false, Bool.false_eq_true, if_false]
            · rw [if_neg h5]
              simp only [decide_eq_false h5, Bool.and_false, Bool.false_and, Bool.false_eq_true, if_false]
      · rw [if_neg h2]
        simp only [decide_eq_false h2, Bool.and_false, Bool.false_and, Bool.false_eq_true, if_false]
    · rw [if_neg h1]
      simp only [decide_eq_false h1, Bool.and_false, Bool.false_and, Bool.false_eq_true, if_false]
theorem Pair_any (a b : Int) (l : List S48) (hl : l.length < 1000) (k : Nat) (hk : 2000 ≤ k) : ucd_Pair.l0 k a b 0 false l (l.length : Int) 0 = some (pairIn a b l 0 false) :=
  Pair_l0 a b l (by omega) l.length k 0 0 false (by omega) (by omega)
theorem Pair_f (a b : Int) (k : Nat) (hk : 2000 ≤ k) : ucd_Pair.f k a b = some (pairOf a b) := by
  unfold ucd_Pair.f
  rw [canonT_of k (by omega)]
  simp only [Option.bind_some]
  exact Pair_any a b canonT (by decide +kernel) k hk

/-! ### it wakes -/
end Go.Proofs.Ytgcdfchchphpjaa.M
