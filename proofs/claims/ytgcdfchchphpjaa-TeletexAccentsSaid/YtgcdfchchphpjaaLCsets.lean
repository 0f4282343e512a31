/- Proved here: what the printed functions of package csets tell, as plain lookups in the tables of places and accents; for enough rounds. -/
import Derived.Test.YtgcdfchchphpjaaM10
import Derived.Test.YtgcdfchchphpjaaM2
import Derived.Test.YtgcdfchchphpjaaM9
import Derived.Test.YtgcdfchchphpjaaM7
import Derived.Test.YtgcdfchchphpjaaLUcd
namespace Go.Proofs.Ytgcdfchchphpjaa.M
set_option linter.unusedVariables false
set_option linter.unusedSimpArgs false
open Go.RowKit Go.Proofs.YtgcdfchchphpjaaW.PrintWords Go.Proofs.YtgcdfchchphpjaaW.PrintLast Go.Proofs.YtgcdfchchphpjaaW.PrintMore

theorem codes_len : codesAll.length = 583 := by decide +kernel
theorem accents_len : api_Accents.tbl.length = 13 := by decide +kernel
theorem rdT_code (l : List S38) (j : Nat) (h : j < l.length) : rd_T38 l (j : Int) = l[j] := by simp [rd_T38, List.getD_eq_getElem?_getD, h]
theorem rdT_acc (l : List S48) (j : Nat) (h : j < l.length) : rd_T48 l (j : Int) = l[j] := by simp [rd_T48, List.getD_eq_getElem?_getD, h]

/-! ### Get, Find -/
def getL (a b : Int) : List S38 → Int × Bool
  | [] => (0, false)
  | x :: t => if x.f0 = a ∧ x.f1 = b then (x.f2, true) else getL a b t
def findL (a b : Int) : List S38 → Int × Bool
  | [] => (0, false)
  | x :: t => if x.f0 = a ∧ x.f2 = b then (x.f1, true) else findL a b t
theorem Get_l0 (a b : Int) (l : List S38) (hl : l.length ≤ 1000000) : ∀ (d k j : Nat), d < k → j + d = l.length → csets_Get.l0 k a b l (l.length : Int) (j : Int) = some (getL a b (l.drop j))
  | 0, k, j, hk, hj => by
    obtain ⟨k, rfl⟩ : ∃ m, k = m + 1 := ⟨k - 1, by omega⟩
    simp only [csets_Get.l0]
    rw [if_neg (by omega), List.drop_eq_nil_of_le (by omega)]
    rfl
  | d + 1, k, j, hk, hj => by
    obtain ⟨k, rfl⟩ : ∃ m, k = m + 1 := ⟨k - 1, by omega⟩
    have hlt : j < l.length := by omega
    simp only [csets_Get.l0]
    rw [if_pos (by omega), if_pos (by omega), if_pos (by omega), rdT_code l j hlt, wrap_succ j (by omega), List.drop_eq_getElem_cons hlt, Get_l0 a b l hl d k (j + 1) (by omega) (by omega)]
    generalize l[j] = u
    generalize l.drop (j + 1) = t
    unfold getL
    by_cases h1 : u.f0 = a
    · by_cases h2 : u.f1 = b
      · rw [if_pos h1, if_pos h2, if_pos ⟨h1, h2⟩]
      · rw [if_pos h1, if_neg h2, if_neg (fun h => h2 h.2)]; cases t <;> rfl
    · rw [if_neg h1, if_neg (fun h => h1 h.1)]; cases t <;> rfl
theorem Get_f (a b : Int) (k : Nat) (hk : 1000 ≤ k) : csets_Get.f k a b = some (getL a b codesAll) := by
  have h := Get_l0 a b codesAll (by rw [codes_len]; decide) codesAll.length k 0 (by rw [codes_len]; omega) (by omega)
  unfold csets_Get.f api_Codes.f
  rw [Option.bind_some]
  exact h
theorem Find_l0 (a b : Int) (l : List S38) (hl : l.length ≤ 1000000) : ∀ (d k j : Nat), d < k → j + d = l.length → csets_Find.l0 k a b l (l.length : Int) (j : Int) = some (findL a b (l.drop j))
  | 0, k, j, hk, hj => by
    obtain ⟨k, rfl⟩ : ∃ m, k = m + 1 := ⟨k - 1, by omega⟩
    simp only [csets_Find.l0]
    rw [if_neg (by omega), List.drop_eq_nil_of_le (by omega)]
    rfl
  | d + 1, k, j, hk, hj => by
    obtain ⟨k, rfl⟩ : ∃ m, k = m + 1 := ⟨k - 1, by omega⟩
    have hlt : j < l.length := by omega
    simp only [csets_Find.l0]
    rw [if_pos (by omega), if_pos (by omega), if_pos (by omega), rdT_code l j hlt, wrap_succ j (by omega), List.drop_eq_getElem_cons hlt, Find_l0 a b l hl d k (j + 1) (by omega) (by omega)]
    generalize l[j] = u
    generalize l.drop (j + 1) = t
    unfold findL
    by_cases h1 : u.f0 = a
    · by_cases h2 : u.f2 = b
      · rw [if_pos h1, if_pos h2, if_pos ⟨h1, h2⟩]
      · rw [if_pos h1, if_neg h2, if_neg (fun h => h2 h.2)]; cases t <;> rfl
    · rw [if_neg h1, if_neg (fun h => h1 h.1)]; cases t <;> rfl
theorem Find_f (a b : Int) (k : Nat) (hk : 1000 ≤ k) : csets_Find.f k a b = some (findL a b codesAll) := by
  have h := Find_l0 a b codesAll (by rw [codes_len]; decide) codesAll.length k 0 (by rw [codes_len]; omega) (by omega)
  unfold csets_Find.f api_Codes.f
  rw [Option.bind_some]
  exact h

/-! ### ByFinal -/
def setsL : List Int := [102, 6, 126, 144, 138, 87, 103]
def finalOf (s : Int) : Int := if s = 6 then 66 else if s = 87 then 66 else if s = 102 then 117 else if s = 103 then 118 else if s = 126 then 70 else if s = 138 then 72 else if s = 144 then 76 else 0
theorem Final_f (s : Int) : api_Final.f s = some (finalOf s) := by
  unfold api_Final.f finalOf
  repeat' split
  all_goals rfl
def byL (f : Int) (w : Bool) : List Int → Int × Bool
  | [] => (0, false)
  | x :: t => if finalOf x = f ∧ ((x == 87) == w) = true then (x, true) else byL f w t
theorem By_l0 (f : Int) (w : Bool) (l : List Int) (hl : l.length ≤ 1000000) : ∀ (d k j : Nat), d < k → j + d = l.length → csets_ByFinal.l0 k f w l (l.length : Int) (j : Int) = some (byL f w (l.drop j))
  | 0, k, j, hk, hj => by
    obtain ⟨k, rfl⟩ : ∃ m, k = m + 1 := ⟨k - 1, by omega⟩
    simp only [csets_ByFinal.l0]
    rw [if_neg (by omega), List.drop_eq_nil_of_le (by omega)]
    rfl
  | d + 1, k, j, hk, hj => by
    obtain ⟨k, rfl⟩ : ∃ m, k = m + 1 := ⟨k - 1, by omega⟩
    have hlt : j < l.length := by omega
    simp only [csets_ByFinal.l0]
    rw [if_pos (by omega), if_pos (by omega), if_pos (by omega), rd_at l j hlt, wrap_succ j (by omega), List.drop_eq_getElem_cons hlt, By_l0 f w l hl d k (j + 1) (by omega) (by omega), Final_f, Option.bind_some]
    generalize l[j] = u
    generalize l.drop (j + 1) = t
    unfold csets_Wide.f
    rw [Option.bind_some]
    unfold byL
    by_cases h1 : finalOf u = f
    · by_cases h2 : ((u == 87) == w) = true
      · rw [if_pos h1, if_pos h2, if_pos ⟨h1, h2⟩]
      · rw [if_pos h1, if_neg h2, if_neg (fun h => h2 h.2)]; cases t <;> rfl
    · rw [if_neg h1, if_neg (fun h => h1 h.1)]; cases t <;> rfl
theorem ByFinal_f (f : Int) (w : Bool) (k : Nat) (hk : 1000 ≤ k) : csets_ByFinal.f k f w = some (byL f w setsL) := by
  have h := By_l0 f w setsL (by decide) setsL.length k 0 (by show 7 < k; omega) (by decide)
  unfold csets_ByFinal.f api_Sets.f
  rw [Option.bind_some, if_pos (by decide), Option.bind_some]
  exact h

/-! ### Mark, Accent -/
def markL (p : Int) : List S48 → Int × Int × Bool
  | [] => (0, 0, false)
  | x :: t => if x.f0 = p then (x.f1, x.f2, true) else markL p t
theorem Mark_l0 (a : Int) (l : List S48) (hl : l.length ≤ 1000000) : ∀ (d k j : Nat), d < k → j + d = l.length → csets_Mark.l0 k a l (l.length : Int) (j : Int) = some (markL a (l.drop j))
  | 0, k, j, hk, hj => by
    obtain ⟨k, rfl⟩ : ∃ m, k = m + 1 := ⟨k - 1, by omega⟩
    simp only [csets_Mark.l0]
    rw [if_neg (by omega), List.drop_eq_nil_of_le (by omega)]
    rfl
  | d + 1, k, j, hk, hj => by
    obtain ⟨k, rfl⟩ : ∃ m, k = m + 1 := ⟨k - 1, by omega⟩
    have hlt : j < l.length := by omega
    simp only [csets_Mark.l0]
    rw [if_pos (by omega), if_pos (by omega), if_pos (by omega), rdT_acc l j hlt, wrap_succ j (by omega), List.drop_eq_getElem_cons hlt, Mark_l0 a l hl d k (j + 1) (by omega) (by omega)]
    generalize l[j] = u
    generalize l.drop (j + 1) = t
    unfold markL
    by_cases h1 : u.f0 = a
    · rw [if_pos h1, if_pos h1]
    · rw [if_neg h1, if_neg h1]; cases t <;> rfl
theorem Mark_f (a : Int) (k : Nat) (hk : 1000 ≤ k) : csets_Mark.f k a = some (markL a api_Accents.tbl) := by
  have h := Mark_l0 a api_Accents.tbl (by rw [accents_len]; decide) api_Accents.tbl.length k 0 (by rw [accents_len]; omega) (by omega)
  unfold csets_Mark.f api_Accents.f
  rw [Option.bind_some]
  exact h
def takenOf (a m : Int) : Int × Bool := if a < 65 then (0, false) else if a > 122 then (0, false) else if a > 90 then (if a < 97 then (0, false) else pairOf a m) else pairOf a m
theorem Taken_f (a m : Int) (k : Nat) (hk : 2000 ≤ k) : csets_Taken.f k a m = some (takenOf a m) := by
  unfold csets_Taken.f takenOf
  rw [Pair_f _ _ k hk, Option.bind_some]
  repeat' split
  all_goals rfl
def accB (c p0 p1 : Int) : List S48 → Int × Int × Bool
  | [] => (0, 0, false)
  | x :: t => if (takenOf p0 x.f1).2 = true ∧ (takenOf p0 x.f1).1 = c ∧ x.f1 = p1 then (x.f0, p0, true) else accB c p0 p1 t
def accA (c : Int) (p : List Int) : List S48 → Int × Int × Bool
  | [] => if p.length = 2 then accB c (rd p 0) (rd p 1) api_Accents.tbl else (0, 0, false)
  | x :: t => if x.f2 = c then (x.f0, 32, true) else accA c p t
theorem accB_l1 (c : Int) (p : List Int) (hp : p.length = 2) (l : List S48) (hl : l.length ≤ 1000000) : ∀ (d k j : Nat), d + 2000 < k → j + d = l.length → csets_Accent.l1 k c p l (l.length : Int) (j : Int) = some (accB c (rd p 0) (rd p 1) (l.drop j))
  | 0, k, j, hk, hj => by
    obtain ⟨k, rfl⟩ : ∃ m, k = m + 1 := ⟨k - 1, by omega⟩
    simp only [csets_Accent.l1]
    rw [if_neg (by omega), List.drop_eq_nil_of_le (by omega)]
    rfl
  | d + 1, k, j, hk, hj => by
    obtain ⟨k, rfl⟩ : ∃ m, k = m + 1 := ⟨k - 1, by omega⟩
    have hlt : j < l.length := by omega
    simp only [csets_Accent.l1]
    rw [if_pos (by omega), if_pos (by omega), if_pos (by omega), if_pos (by omega), Taken_f _ _ k (by omega), Option.bind_some, if_pos (show (1 : Int) < (p.length : Int) by omega), rdT_acc l j hlt, wrap_succ j (by omega), List.drop_eq_getElem_cons hlt, accB_l1 c p hp l hl d k (j + 1) (by omega) (by omega)]
    generalize l[j] = u
    generalize l.drop (j + 1) = t
    unfold accB
    by_cases h1 : (takenOf (rd p 0) u.f1).2 = true
    · by_cases h2 : (takenOf (rd p 0) u.f1).1 = c
      · by_cases h3 : u.f1 = rd p 1
        · rw [if_pos h1, if_pos h2, if_pos h3, if_pos ⟨h1, h2, h3⟩]
        · rw [if_pos h1, if_pos h2, if_neg h3, if_neg (fun h => h3 h.2.2)]; cases t <;> rfl
      · rw [if_pos h1, if_neg h2, if_neg (fun h => h2 h.2.1)]; cases t <;> rfl
    · rw [if_neg h1, if_neg (fun h => h1 h.1)]; cases t <;> rfl
theorem accA_l0 (c : Int) (l : List S48) (hl : l.length ≤ 1000000) : ∀ (d k j : Nat), d + 2100 < k → j + d = l.length → csets_Accent.l0 k c l (l.length : Int) (j : Int) = some (accA c (look48 canonT c) (l.drop j))
  | 0, k, j, hk, hj => by
    obtain ⟨k, rfl⟩ : ∃ m, k = m + 1 := ⟨k - 1, by omega⟩
    simp only [csets_Accent.l0]
    rw [if_neg (by omega), List.drop_eq_nil_of_le (by omega)]
    have hc : ucd_Canon.f c = some (look48 canonT c) := rfl
    rw [hc, Option.bind_some]
    generalize look48 canonT c = p
    unfold accA
    by_cases h : p.length = 2
    · rw [if_pos (by omega), if_pos h]
      have h1 := accB_l1 c p h api_Accents.tbl (by rw [accents_len]; decide) api_Accents.tbl.length k 0 (by rw [accents_len]; omega) (by omega)
      unfold api_Accents.f
      rw [Option.bind_some]
      exact h1
    · rw [if_neg (by omega), if_neg h]
  | d + 1, k, j, hk, hj => by
    obtain ⟨k, rfl⟩ : ∃ m, k = m + 1 := ⟨k - 1, by omega⟩
    have hlt : j < l.length := by omega
    simp only [csets_Accent.l0]
    rw [if_pos (by omega), if_pos (by omega), if_pos (by omega), rdT_acc l j hlt, wrap_succ j (by omega), List.drop_eq_getElem_cons hlt, accA_l0 c l hl d k (j + 1) (by omega) (by omega)]
    generalize l[j] = u
    generalize l.drop (j + 1) = t
    generalize look48 canonT c = p
    conv => rhs; rw [accA]
    by_cases h1 : u.f2 = c
    · rw [if_pos h1, if_pos h1]
    · rw [if_neg h1, if_neg h1]
def accentOf (c : Int) : Int × Int × Bool := accA c (look48 canonT c) api_Accents.tbl
theorem Accent_f (c : Int) (k : Nat) (hk : 3000 ≤ k) : csets_Accent.f k c = some (accentOf c) := by
  have h := accA_l0 c api_Accents.tbl (by rw [accents_len]; decide) api_Accents.tbl.length k 0 (by rw [accents_len]; omega) (by omega)
  unfold csets_Accent.f api_Accents.f
  rw [Option.bind_some]
  exact h

def accFacts (x : S48) : Bool := decide (markL x.f0 api_Accents.tbl = (x.f1, x.f2, true)) && decide ((getL 103 x.f0 codesAll).2 = false) && decide (accentOf x.f2 = (x.f0, 32, true))
set_option maxRecDepth 1000000 in
theorem acc_facts : (api_Accents.tbl.all accFacts) = true := by decide +kernel

theorem takenOf_tells (a m c : Int) (h1 : (takenOf a m).2 = true) (h2 : (takenOf a m).1 = c) : pairOf a m = (c, true) ∧ (65 ≤ a ∧ a ≤ 90 ∨ 97 ≤ a ∧ a ≤ 122) := by
  have he : takenOf a m = (c, true) := Prod.ext h2 h1
  clear h1 h2
  unfold takenOf at he
  by_cases c1 : a < 65
  · rw [if_pos c1] at he; exact absurd (congrArg Prod.snd he) Bool.false_ne_true
  · rw [if_neg c1] at he
    by_cases c2 : a > 122
    · rw [if_pos c2] at he; exact absurd (congrArg Prod.snd he) Bool.false_ne_true
    · rw [if_neg c2] at he
      by_cases c3 : a > 90
      · rw [if_pos c3] at he
        by_cases c4 : a < 97
        · rw [if_pos c4] at he; exact absurd (congrArg Prod.snd he) Bool.false_ne_true
        · rw [if_neg c4] at he
          exact ⟨he, by omega⟩
      · rw [if_neg c3] at he
        exact ⟨he, by omega⟩

/-- What the answer of Accent is worth. -/
def Worth (c : Int) (r : Int × Int × Bool) : Prop :=
  if r.2.2 = true then ∃ n lone, markL r.1 api_Accents.tbl = (n, lone, true) ∧ ((r.2.1 = 32 ∧ lone = c) ∨ (r.2.1 ≠ 32 ∧ pairOf r.2.1 n = (c, true) ∧ (65 ≤ r.2.1 ∧ r.2.1 ≤ 90 ∨ 97 ≤ r.2.1 ∧ r.2.1 ≤ 122)))
  else r.1 = 0 ∧ r.2.1 = 0
theorem worth_none (c : Int) : Worth c (0, 0, false) := by
  unfold Worth
  rw [if_neg Bool.false_ne_true]
  exact ⟨rfl, rfl⟩
theorem accB_worth (c p0 p1 : Int) : ∀ (l : List S48), (∀ x ∈ l, markL x.f0 api_Accents.tbl = (x.f1, x.f2, true)) → Worth c (accB c p0 p1 l)
  | [], _ => worth_none c
  | x :: t, h => by
    unfold accB
    by_cases e : (takenOf p0 x.f1).2 = true ∧ (takenOf p0 x.f1).1 = c ∧ x.f1 = p1
    · rw [if_pos e]
      obtain ⟨h1, h2⟩ := takenOf_tells p0 x.f1 c e.1 e.2.1
      unfold Worth
      rw [if_pos rfl]
      exact ⟨x.f1, x.f2, h x List.mem_cons_self, .inr ⟨by show p0 ≠ 32; omega, h1, h2⟩⟩
    · rw [if_neg e]
      exact accB_worth c p0 p1 t (fun y hy => h y (List.mem_cons_of_mem _ hy))
theorem accA_worth (c : Int) (p : List Int) (h0 : ∀ x ∈ api_Accents.tbl, markL x.f0 api_Accents.tbl = (x.f1, x.f2, true)) : ∀ (l : List S48), (∀ x ∈ l, markL x.f0 api_Accents.tbl = (x.f1, x.f2, true)) → Worth c (accA c p l)
  | [], _ => by
    unfold accA
    by_cases e : p.length = 2
    · rw [if_pos e]
      exact accB_worth c _ _ _ h0
    · rw [if_neg e]
      exact worth_none c
  | x :: t, h => by
    unfold accA
    by_cases e : x.f2 = c
    · rw [if_pos e]
      unfold Worth
      rw [if_pos rfl]
      exact ⟨x.f1, x.f2, h x List.mem_cons_self, .inl ⟨rfl, e⟩⟩
    · rw [if_neg e]
      exact accA_worth c p h0 t (fun y hy => h y (List.mem_cons_of_mem _ hy))
theorem accent_worth (c : Int) : Worth c (accentOf c) := by
  have h : ∀ x ∈ api_Accents.tbl, markL x.f0 api_Accents.tbl = (x.f1, x.f2, true) := fun x hx => by
    have h1 := List.all_eq_true.1 acc_facts x hx
    unfold accFacts at h1
    simp only [Bool.and_eq_true, decide_eq_true_eq] at h1
    exact h1.1.1
  exact accA_worth c _ h _ h
end Go.Proofs.Ytgcdfchchphpjaa.M
