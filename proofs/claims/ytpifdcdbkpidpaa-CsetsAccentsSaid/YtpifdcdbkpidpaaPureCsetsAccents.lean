/- Proved here: for every c and at the statement CsetsAccents returns true. No condition. -/
import Derived.Test.YtpifdcdbkpidpaaM11
import Derived.Test.YtpifdcdbkpidpaaM10
import Derived.Test.YtpifdcdbkpidpaaLCsets
namespace Go.Proofs.Ytpifdcdbkpidpaa.Pure
set_option linter.unusedVariables false
set_option linter.unusedSimpArgs false
open Go.RowKit Go.Proofs.Ytpifdcdbkpidpaa.M Go.Proofs.YtpifdcdbkpidpaaW.PrintWords Go.Proofs.YtpifdcdbkpidpaaW.PrintLast

theorem u64_tmod4 (a : Int) (m : Nat) (hm : 0 < m) (hl : m ≤ 1000000000) : ∃ q : Nat, q < m ∧ wrap64 (Int.tmod (IntKind.u64.wrap a) (m : Int)) = (q : Int) := by
  have h0 : 0 ≤ IntKind.u64.wrap a := by simp only [IntKind.wrap, IntKind.bits, IntKind.signed]; simp; omega
  have e : Int.tmod (IntKind.u64.wrap a) (m : Int) = IntKind.u64.wrap a % (m : Int) := Int.tmod_eq_emod_of_nonneg h0
  have h1 : 0 ≤ IntKind.u64.wrap a % (m : Int) := Int.emod_nonneg _ (by omega)
  have h2 : IntKind.u64.wrap a % (m : Int) < (m : Int) := Int.emod_lt_of_pos _ (by omega)
  refine ⟨(IntKind.u64.wrap a % (m : Int)).toNat, by omega, ?_⟩
  rw [e, wrap_id _ (by omega) (by omega)]
  omega

def accFacts (x : S38) : Bool := decide (markL x.f0 api_Accents.tbl = (x.f1, x.f2, true)) && decide ((getL 103 x.f0 codesAll).2 = false) && decide (accentOf x.f2 = (x.f0, 32, true))
set_option maxRecDepth 1000000 in
theorem acc_facts : (api_Accents.tbl.all accFacts) = true := by decide +kernel

theorem takenOf_tells (a m c : Int) (h1 : (takenOf a m).2 = true) (h2 : (takenOf a m).1 = c) : pairOf a m = (c, true) ∧ (65 ≤ a ∧ a ≤ 90 ∨ 97 ≤ a ∧ a ≤ 122) := by
  have he : takenOf a m = (c, true) := Prod.ext h2 h1
  clear h1 h2
  unfold takenOf at he
  by_cases c1 : a < 65
  · rw [if_pos c1] at he; exact absurd (congrArg Prod.snd he) Bool.false_ne_true
  · rw [if_neg c1] at he
    by_cases c2 : a > 122
    · rw [if_pos c2] at he; exact absurd (congrArg Prod.snd he) Bool.false_ne_true
    · rw [if_neg c2] at he
      by_cases c3 : a > 90
      · rw [if_pos c3] at he
        by_cases c4 : a < 97
        · rw [if_pos c4] at he; exact absurd (congrArg Prod.snd he) Bool.false_ne_true
        · rw [if_neg c4] at he
          exact ⟨he, by omega⟩
      · rw [if_neg c3] at he
        exact ⟨he, by omega⟩

/-- What the answer of Accent is worth. -/
def Worth (c : Int) (r : Int × Int × Bool) : Prop :=
  if r.2.2 = true then ∃ n lone, markL r.1 api_Accents.tbl = (n, lone, true) ∧ ((r.2.1 = 32 ∧ lone = c) ∨ (r.2.1 ≠ 32 ∧ pairOf r.2.1 n = (c, true) ∧ (65 ≤ r.2.1 ∧ r.2.1 ≤ 90 ∨ 97 ≤ r.2.1 ∧ r.2.1 ≤ 122)))
  else r.1 = 0 ∧ r.2.1 = 0
theorem worth_none (c : Int) : Worth c (0, 0, false) := by
  unfold Worth
  rw [if_neg Bool.false_ne_true]
  exact ⟨rfl, rfl⟩
theorem accB_worth (c p0 p1 : Int) : ∀ (l : List S38), (∀ x ∈ l, markL x.f0 api_Accents.tbl = (x.f1, x.f2, true)) → Worth c (accB c p0 p1 l)
  | [], _ => worth_none c
  | x :: t, h => by
    unfold accB
    by_cases e : (takenOf p0 x.f1).2 = true ∧ (takenOf p0 x.f1).1 = c ∧ x.f1 = p1
    · rw [if_pos e]
      obtain ⟨h1, h2⟩ := takenOf_tells p0 x.f1 c e.1 e.2.1
      unfold Worth
      rw [if_pos rfl]
      exact ⟨x.f1, x.f2, h x List.mem_cons_self, .inr ⟨by show p0 ≠ 32; omega, h1, h2⟩⟩
    · rw [if_neg e]
      exact accB_worth c p0 p1 t (fun y hy => h y (List.mem_cons_of_mem _ hy))
theorem accA_worth (c : Int) (p : List Int) (h0 : ∀ x ∈ api_Accents.tbl, markL x.f0 api_Accents.tbl = (x.f1, x.f2, true)) : ∀ (l : List S38), (∀ x ∈ l, markL x.f0 api_Accents.tbl = (x.f1, x.f2, true)) → Worth c (accA c p l)
  | [], _ => by
    unfold accA
    by_cases e : p.length = 2
    · rw [if_pos e]
      exact accB_worth c _ _ _ h0
    · rw [if_neg e]
      exact worth_none c
  | x :: t, h => by
    unfold accA
    by_cases e : x.f2 = c
    · rw [if_pos e]
      unfold Worth
      rw [if_pos rfl]
      exact ⟨x.f1, x.f2, h x List.mem_cons_self, .inl ⟨rfl, e⟩⟩
    · rw [if_neg e]
      exact accA_worth c p h0 t (fun y hy => h y (List.mem_cons_of_mem _ hy))
theorem accent_worth (c : Int) : Worth c (accentOf c) := by
  have h : ∀ x ∈ api_Accents.tbl, markL x.f0 api_Accents.tbl = (x.f1, x.f2, true) := fun x hx => by
    have h1 := List.all_eq_true.1 acc_facts x hx
    unfold accFacts at h1
    simp only [Bool.and_eq_true, decide_eq_true_eq] at h1
    exact h1.1.1
  exact accA_worth c _ h _ h

theorem accents_j0 (c : Int) : sobriquetlaw16_CsetsAccents.j0 3002 c false = some true := by
  have hW := accent_worth c
  have hA := Accent_f c 3001 (by omega)
  have hM : ∀ a, csets_Mark.f 3001 a = some (markL a api_Accents.tbl) := fun a => Mark_f a 3001 (by omega)
  have hP : ∀ a m, ucd_Pair.f 3001 a m = some (pairOf a m) := fun a m => Pair_f a m 3001 (by omega)
  have hK := wakes16 3001 (by omega)
  simp only [sobriquetlaw16_CsetsAccents.j0]
  rw [if_neg Bool.false_ne_true, hA, Option.bind_some]
  clear hA
  generalize accentOf c = r at *
  unfold Worth at hW
  by_cases e : r.2.2 = true
  · rw [if_pos e] at hW
    obtain ⟨n, lone, hm, hd⟩ := hW
    rw [if_pos e, hM, Option.bind_some, hm]
    rcases hd with ⟨h1, h2⟩ | ⟨h1, h2, h3⟩
    · rw [if_pos h1, if_pos rfl, if_pos h2, hK]
      rfl
    · rw [if_neg h1, hP, Option.bind_some, if_pos rfl]
      show (if (pairOf r.2.1 n).2 = true then _ else _) = _
      rw [h2, if_pos rfl, if_pos rfl, hK]
      by_cases g1 : r.2.1 ≥ 65
      · rw [if_pos g1]
        by_cases g2 : r.2.1 ≤ 90
        · rw [if_pos g2]; rfl
        · rw [if_neg g2, if_pos (by omega), if_pos (by omega)]; rfl
      · exact absurd h3 (by omega)
  · rw [if_neg e] at hW
    rw [if_neg e, if_pos hW.1, if_pos hW.2, hK]
    rfl

theorem CsetsAccents : sobriquetlaw16_CsetsAccents.Pure := by
  intro a0 a1 _ _
  refine ⟨3002, ?_⟩
  obtain ⟨q, hq, e⟩ := u64_tmod4 a1 13 (by omega) (by omega)
  simp only [Int.cast_ofNat_Int] at e
  have hl : api_Accents.tbl.length = 13 := accents_len
  have hc : api_Accents.f = some api_Accents.tbl := rfl
  have hM : ∀ a, csets_Mark.f 3002 a = some (markL a api_Accents.tbl) := fun a => Mark_f a 3002 (by omega)
  have hG : ∀ a b, csets_Get.f 3002 a b = some (getL a b codesAll) := fun a b => Get_f a b 3002 (by omega)
  have hA : ∀ a, csets_Accent.f 3002 a = some (accentOf a) := fun a => Accent_f a 3002 (by omega)
  have hx : accFacts (rd_T38 api_Accents.tbl (q : Int)) = true := by
    rw [rdT_acc _ q (by rw [hl]; exact hq)]
    exact List.all_eq_true.1 acc_facts _ (List.getElem_mem _)
  unfold sobriquetlaw16_CsetsAccents.f
  rw [hc, Option.bind_some]
  clear hc
  have hw : IntKind.u64.wrap ((api_Accents.tbl.length : Int)) = 13 := by rw [hl]; decide
  rw [hw, e, if_neg (by rw [hl]; decide), if_neg (by decide), if_pos (by omega), if_pos (by rw [hl]; show (q : Int) < 13; omega)]
  generalize rd_T38 api_Accents.tbl (q : Int) = x at *
  unfold accFacts at hx
  simp only [Bool.and_eq_true, decide_eq_true_eq] at hx
  obtain ⟨⟨h1, h2⟩, h3⟩ := hx
  rw [hM, h1, Option.bind_some, hG, Option.bind_some, hA, h3, Option.bind_some, if_pos rfl, if_pos rfl, if_pos rfl, if_neg (by rw [h2]; exact Bool.false_ne_true), if_pos rfl, if_pos rfl]
  exact accents_j0 a0
end Go.Proofs.Ytpifdcdbkpidpaa.Pure
