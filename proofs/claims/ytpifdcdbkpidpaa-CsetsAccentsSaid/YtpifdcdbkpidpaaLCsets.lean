/- Proved here: what the printed functions of package csets tell, as plain lookups in the tables of places and accents; for enough rounds. -/
import Derived.Test.YtpifdcdbkpidpaaM9
import Derived.Test.YtpifdcdbkpidpaaM2
import Derived.Test.YtpifdcdbkpidpaaM1
import Derived.Test.YtpifdcdbkpidpaaM8
import Derived.Test.YtpifdcdbkpidpaaM10
import Derived.Test.YtpifdcdbkpidpaaLUcd
namespace Go.Proofs.Ytpifdcdbkpidpaa.M
set_option linter.unusedVariables false
set_option linter.unusedSimpArgs false
open Go.RowKit Go.Proofs.YtpifdcdbkpidpaaW.PrintWords Go.Proofs.YtpifdcdbkpidpaaW.PrintLast Go.Proofs.YtpifdcdbkpidpaaW.PrintMore

theorem codes_len : codesAll.length = 583 := by decide +kernel
theorem accents_len : api_Accents.tbl.length = 13 := by decide +kernel
theorem rdT_code (l : List S34) (j : Nat) (h : j < l.length) : rd_T34 l (j : Int) = l[j] := by simp [rd_T34, List.getD_eq_getElem?_getD, h]
theorem rdT_acc (l : List S38) (j : Nat) (h : j < l.length) : rd_T38 l (j : Int) = l[j] := by simp [rd_T38, List.getD_eq_getElem?_getD, h]

/-! ### Get, Find -/
def getL (a b : Int) : List S34 → Int × Bool
  | [] => (0, false)
  | x :: t => if x.f0 = a ∧ x.f1 = b then (x.f2, true) else getL a b t
def findL (a b : Int) : List S34 → Int × Bool
  | [] => (0, false)
  | x :: t => if x.f0 = a ∧ x.f2 = b then (x.f1, true) else findL a b t
theorem Get_l0 (a b : Int) (l : List S34) (hl : l.length ≤ 1000000) : ∀ (d k j : Nat), d < k → j + d = l.length → csets_Get.l0 k a b l (l.length : Int) (j : Int) = some (getL a b (l.drop j))
  | 0, k, j, hk, hj => by
    obtain ⟨k, rfl⟩ : ∃ m, k = m + 1 := ⟨k - 1, by omega⟩
    simp only [csets_Get.l0]
    rw [if_neg (by omega), List.drop_eq_nil_of_le (by omega)]
    rfl
  | d + 1, k, j, hk, hj => by
    obtain ⟨k, rfl⟩ : ∃ m, k = m + 1 := ⟨k - 1, by omega⟩
    have hlt : j < l.length := by omega
    simp only [csets_Get.l0]
    rw [if_pos (by omega), if_pos (by omega), if_pos (by omega), rdT_code l j hlt, wrap_succ j (by omega), List.drop_eq_getElem_cons hlt, Get_l0 a b l hl d k (j + 1) (by omega) (by omega)]
    generalize l[j] = u
    generalize l.drop (j + 1) = t
    unfold getL
    by_cases h1 : u.f0 = a
    · by_cases h2 : u.f1 = b
      · rw [if_pos h1, if_pos h2, if_pos ⟨h1, h2⟩]
      · rw [if_pos h1, if_neg h2, if_neg (fun h => h2 h.2)]; cases t <;> rfl
    · rw [if_neg h1, if_neg (fun h => h1 h.1)]; cases t <;> rfl
theorem Get_f (a b : Int) (k : Nat) (hk : 1000 ≤ k) : csets_Get.f k a b = some (getL a b codesAll) := by
  have h := Get_l0 a b codesAll (by rw [codes_len]; decide) codesAll.length k 0 (by rw [codes_len]; omega) (by omega)
  unfold csets_Get.f api_Codes.f
  rw [Option.bind_some]
  exact h
theorem Find_l0 (a b : Int) (l : List S34) (hl : l.length ≤ 1000000) : ∀ (d k j : Nat), d < k → j + d = l.length → csets_Find.l0 k a b l (l.length : Int) (j : Int) = some (findL a b (l.drop j))
  | 0, k, j, hk, hj => by
    obtain ⟨k, rfl⟩ : ∃ m, k = m + 1 := ⟨k - 1, by omega⟩
    simp only [csets_Find.l0]
    rw [if_neg (by omega), List.drop_eq_nil_of_le (by omega)]
    rfl
  | d + 1, k, j, hk, hj => by
    obtain ⟨k, rfl⟩ : ∃ m, k = m + 1 := ⟨k - 1, by omega⟩
    have hlt : j < l.length := by omega
    simp only [csets_Find.l0]
    rw [if_pos (by omega), if_pos (by omega), if_pos (by omega), rdT_code l j hlt, wrap_succ j (by omega), List.drop_eq_getElem_cons hlt, Find_l0 a b l hl d k (j + 1) (by omega) (by omega)]
    generalize l[j] = u
    generalize l.drop (j + 1) = t
    unfold findL
    by_cases h1 : u.f0 = a
    · by_cases h2 : u.f2 = b
      · rw [if_pos h1, if_pos h2, if_pos ⟨h1, h2⟩]
      · rw [if_pos h1, if_neg h2, if_neg (fun h => h2 h.2)]; cases t <;> rfl
    · rw [if_neg h1, if_neg (fun h => h1 h.1)]; cases t <;> rfl
theorem Find_f (a b : Int) (k : Nat) (hk : 1000 ≤ k) : csets_Find.f k a b = some (findL a b codesAll) := by
  have h := Find_l0 a b codesAll (by rw [codes_len]; decide) codesAll.length k 0 (by rw [codes_len]; omega) (by omega)
  unfold csets_Find.f api_Codes.f
  rw [Option.bind_some]
  exact h

/-! ### ByFinal -/
def setsL : List Int := [102, 6, 126, 144, 138, 87, 103]
def finalOf (s : Int) : Int := if s = 6 then 66 else if s = 87 then 66 else if s = 102 then 117 else if s = 103 then 118 else if s = 126 then 70 else if s = 138 then 72 else if s = 144 then 76 else 0
theorem Final_f (s : Int) : api_Final.f s = some (finalOf s) := by
  unfold api_Final.f finalOf
  repeat' split
  all_goals rfl
def byL (f : Int) (w : Bool) : List Int → Int × Bool
  | [] => (0, false)
  | x :: t => if finalOf x = f ∧ ((x == 87) == w) = true then (x, true) else byL f w t
theorem By_l0 (f : Int) (w : Bool) (l : List Int) (hl : l.length ≤ 1000000) : ∀ (d k j : Nat), d < k → j + d = l.length → csets_ByFinal.l0 k f w l (l.length : Int) (j : Int) = some (byL f w (l.drop j))
  | 0, k, j, hk, hj => by
    obtain ⟨k, rfl⟩ : ∃ m, k = m + 1 := ⟨k - 1, by omega⟩
    simp only [csets_ByFinal.l0]
    rw [if_neg (by omega), List.drop_eq_nil_of_le (by omega)]
    rfl
  | d + 1, k, j, hk, hj => by
    obtain ⟨k, rfl⟩ : ∃ m, k = m + 1 := ⟨k - 1, by omega⟩
    have hlt : j < l.length := by omega
    simp only [csets_ByFinal.l0]
    rw [if_pos (by omega), if_pos (by omega), if_pos (by omega), rd_at l j hlt, wrap_succ j (by omega), List.drop_eq_getElem_cons hlt, By_l0 f w l hl d k (j + 1) (by omega) (by omega), Final_f, Option.bind_some]
    generalize l[j] = u
    generalize l.drop (j + 1) = t
    unfold csets_Wide.f
    rw [Option.bind_some]
    unfold byL
    by_cases h1 : finalOf u = f
    · by_cases h2 : ((u == 87) == w) = true
      · rw [if_pos h1, if_pos h2, if_pos ⟨h1, h2⟩]
      · rw [if_pos h1, if_neg h2, if_neg (fun h => h2 h.2)]; cases t <;> rfl
    · rw [if_neg h1, if_neg (fun h => h1 h.1)]; cases t <;> rfl
theorem ByFinal_f (f : Int) (w : Bool) (k : Nat) (hk : 1000 ≤ k) : csets_ByFinal.f k f w = some (byL f w setsL) := by
  have h := By_l0 f w setsL (by decide) setsL.length k 0 (by show 7 < k; omega) (by decide)
  unfold csets_ByFinal.f api_Sets.f
  rw [Option.bind_some, if_pos (by decide), Option.bind_some]
  exact h

/-! ### Mark, Accent -/
def markL (p : Int) : List S38 → Int × Int × Bool
  | [] => (0, 0, false)
  | x :: t => if x.f0 = p then (x.f1, x.f2, true) else markL p t
theorem Mark_l0 (a : Int) (l : List S38) (hl : l.length ≤ 1000000) : ∀ (d k j : Nat), d < k → j + d = l.length → csets_Mark.l0 k a l (l.length : Int) (j : Int) = some (markL a (l.drop j))
  | 0, k, j, hk, hj => by
    obtain ⟨k, rfl⟩ : ∃ m, k = m + 1 := ⟨k - 1, by omega⟩
    simp only [csets_Mark.l0]
    rw [if_neg (by omega), List.drop_eq_nil_of_le (by omega)]
    rfl
  | d + 1, k, j, hk, hj => by
    obtain ⟨k, rfl⟩ : ∃ m, k = m + 1 := ⟨k - 1, by omega⟩
    have hlt : j < l.length := by omega
    simp only [csets_Mark.l0]
    rw [if_pos (by omega), if_pos (by omega), if_pos (by omega), rdT_acc l j hlt, wrap_succ j (by omega), List.drop_eq_getElem_cons hlt, Mark_l0 a l hl d k (j + 1) (by omega) (by omega)]
    generalize l[j] = u
    generalize l.drop (j + 1) = t
    unfold markL
    by_cases h1 : u.f0 = a
    · rw [if_pos h1, if_pos h1]
    · rw [if_neg h1, if_neg h1]; cases t <;> rfl
theorem Mark_f (a : Int) (k : Nat) (hk : 1000 ≤ k) : csets_Mark.f k a = some (markL a api_Accents.tbl) := by
  have h := Mark_l0 a api_Accents.tbl (by rw [accents_len]; decide) api_Accents.tbl.length k 0 (by rw [accents_len]; omega) (by omega)
  unfold csets_Mark.f api_Accents.f
  rw [Option.bind_some]
  exact h
def takenOf (a m : Int) : Int × Bool := if a < 65 then (0, false) else if a > 122 then (0, false) else if a > 90 then (if a < 97 then (0, false) else pairOf a m) else pairOf a m
theorem Taken_f (a m : Int) (k : Nat) (hk : 2000 ≤ k) : csets_Taken.f k a m = some (takenOf a m) := by
  unfold csets_Taken.f takenOf
  rw [Pair_f _ _ k hk, Option.bind_some]
  repeat' split
  all_goals rfl
def accB (c p0 p1 : Int) : List S38 → Int × Int × Bool
  | [] => (0, 0, false)
  | x :: t => if (takenOf p0 x.f1).2 = true ∧ (takenOf p0 x.f1).1 = c ∧ x.f1 = p1 then (x.f0, p0, true) else accB c p0 p1 t
def accA (c : Int) (p : List Int) : List S38 → Int × Int × Bool
  | [] => if p.length = 2 then accB c (rd p 0) (rd p 1) api_Accents.tbl else (0, 0, false)
  | x :: t => if x.f2 = c then (x.f0, 32, true) else accA c p t
theorem accB_l1 (c : Int) (p : List Int) (hp : p.length = 2) (l : List S38) (hl : l.length ≤ 1000000) : ∀ (d k j : Nat), d + 2000 < k → j + d = l.length → csets_Accent.l1 k c p l (l.length : Int) (j : Int) = some (accB c (rd p 0) (rd p 1) (l.drop j))
  | 0, k, j, hk, hj => by
    obtain ⟨k, rfl⟩ : ∃ m, k = m + 1 := ⟨k - 1, by omega⟩
    simp only [csets_Accent.l1]
    rw [if_neg (by omega), List.drop_eq_nil_of_le (by omega)]
    rfl
  | d + 1, k, j, hk, hj => by
    obtain ⟨k, rfl⟩ : ∃ m, k = m + 1 := ⟨k - 1, by omega⟩
    have hlt : j < l.length := by omega
    simp only [csets_Accent.l1]
    rw [if_pos (by omega), if_pos (by omega), if_pos (by omega), if_pos (by omega), Taken_f _ _ k (by omega), Option.bind_some, if_pos (show (1 : Int) < (p.length : Int) by omega), rdT_acc l j hlt, wrap_succ j (by omega), List.drop_eq_getElem_cons hlt, accB_l1 c p hp l hl d k (j + 1) (by omega) (by omega)]
    generalize l[j] = u
    generalize l.drop (j + 1) = t
    unfold accB
    by_cases h1 : (takenOf (rd p 0) u.f1).2 = true
    · by_cases h2 : (takenOf (rd p 0) u.f1).1 = c
      · by_cases h3 : u.f1 = rd p 1
        · rw [if_pos h1, if_pos h2, if_pos h3, if_pos ⟨h1, h2, h3⟩]
        · rw [if_pos h1, if_pos h2, if_neg h3, if_neg (fun h => h3 h.2.2)]; cases t <;> rfl
      · rw [if_pos h1, if_neg h2, if_neg (fun h => h2 h.2.1)]; cases t <;> rfl
    · rw [if_neg h1, if_neg (fun h => h1 h.1)]; cases t <;> rfl
theorem accA_l0 (c : Int) (l : List S38) (hl : l.length ≤ 1000000) : ∀ (d k j : Nat), d + 2100 < k → j + d = l.length → csets_Accent.l0 k c l (l.length : Int) (j : Int) = some (accA c (look38 canonT c) (l.drop j))
  | 0, k, j, hk, hj => by
    obtain ⟨k, rfl⟩ : ∃ m, k = m + 1 := ⟨k - 1, by omega⟩
    simp only [csets_Accent.l0]
    rw [if_neg (by omega), List.drop_eq_nil_of_le (by omega)]
    have hc : ucd_Canon.f c = some (look38 canonT c) := rfl
    rw [hc, Option.bind_some]
    generalize look38 canonT c = p
    unfold accA
    by_cases h : p.length = 2
    · rw [if_pos (by omega), if_pos h]
      have h1 := accB_l1 c p h api_Accents.tbl (by rw [accents_len]; decide) api_Accents.tbl.length k 0 (by rw [accents_len]; omega) (by omega)
      unfold api_Accents.f
      rw [Option.bind_some]
      exact h1
    · rw [if_neg (by omega), if_neg h]
  | d + 1, k, j, hk, hj => by
    obtain ⟨k, rfl⟩ : ∃ m, k = m + 1 := ⟨k - 1, by omega⟩
    have hlt : j < l.length := by omega
    simp only [csets_Accent.l0]
    rw [if_pos (by omega), if_pos (by omega), if_pos (by omega), rdT_acc l j hlt, wrap_succ j (by omega), List.drop_eq_getElem_cons hlt, accA_l0 c l hl d k (j + 1) (by omega) (by omega)]
    generalize l[j] = u
    generalize l.drop (j + 1) = t
    generalize look38 canonT c = p
    conv => rhs; rw [accA]
    by_cases h1 : u.f2 = c
    · rw [if_pos h1, if_pos h1]
    · rw [if_neg h1, if_neg h1]
def accentOf (c : Int) : Int × Int × Bool := accA c (look38 canonT c) api_Accents.tbl
theorem Accent_f (c : Int) (k : Nat) (hk : 3000 ≤ k) : csets_Accent.f k c = some (accentOf c) := by
  have h := accA_l0 c api_Accents.tbl (by rw [accents_len]; decide) api_Accents.tbl.length k 0 (by rw [accents_len]; omega) (by omega)
  unfold csets_Accent.f api_Accents.f
  rw [Option.bind_some]
  exact h

/-! ### wakes -/
theorem wk_a : accentOf 192 = (65, 65, true) := by decide +kernel
theorem wk_b : getL 144 48 codesAll = (1040, true) := by decide +kernel
theorem wk_c : findL 126 913 codesAll = (65, true) := by decide +kernel
theorem wk_d : byL 70 false setsL = (126, true) := by decide +kernel
theorem wakes16 (k : Nat) (hk : 3000 ≤ k) : sobriquetlaw16_wakes.f k = some true := by
  unfold sobriquetlaw16_wakes.f
  rw [Accent_f _ k hk, Get_f _ _ k (by omega), Find_f _ _ k (by omega), ByFinal_f _ _ k (by omega), wk_a, wk_b, wk_c, wk_d]
  rfl
end Go.Proofs.Ytpifdcdbkpidpaa.M
