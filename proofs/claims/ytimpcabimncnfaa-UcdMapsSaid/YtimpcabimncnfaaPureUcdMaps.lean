/- Proved here: for every at the statement UcdMaps returns true. No condition. -/
import Derived.Test.YtimpcabimncnfaaHUcdMaps
import Derived.Test.YtimpcabimncnfaaLUcd
import Derived.Test.YtimpcabimncnfaaLKeep
namespace Go.Proofs.Ytimpcabimncnfaa.Pure
set_option linter.unusedVariables false
set_option linter.unusedSimpArgs false
open Go.RowKit Go.Proofs.Ytimpcabimncnfaa.M Go.Proofs.YtimpcabimncnfaaW.PrintWords Go.Proofs.YtimpcabimncnfaaW.PrintLast

namespace Maps
theorem u64_nat (m : Nat) (h : m ≤ 1000000000) : IntKind.u64.wrap (m : Int) = (m : Int) := by simp only [IntKind.wrap, IntKind.bits, IntKind.signed]; simp; omega
theorem idx (a : Int) (m : Nat) (hm : 0 < m) (hl : m ≤ 1000000000) : ∃ q : Nat, q < m ∧ wrap64 (Int.tmod (IntKind.u64.wrap a) (IntKind.u64.wrap (m : Int))) = (q : Int) := by
  have h0 : 0 ≤ IntKind.u64.wrap a := by simp only [IntKind.wrap, IntKind.bits, IntKind.signed]; simp; omega
  have e : Int.tmod (IntKind.u64.wrap a) (m : Int) = IntKind.u64.wrap a % (m : Int) := Int.tmod_eq_emod_of_nonneg h0
  have h1 : 0 ≤ IntKind.u64.wrap a % (m : Int) := Int.emod_nonneg _ (by omega)
  have h2 : IntKind.u64.wrap a % (m : Int) < (m : Int) := Int.emod_lt_of_pos _ (by omega)
  refine ⟨(IntKind.u64.wrap a % (m : Int)).toNat, by omega, ?_⟩
  rw [u64_nat m hl, e, wrap_id _ (by omega) (by omega)]
  omega
theorem canon_facts : (canonT.all fun x => decide (look41 canonT x.f0 = took x.f1 x.f2)) = true := by decide +kernel
theorem compat_facts : (compatT.all fun x => decide (look43 compatT x.f0 = x.f1) && decide (look41 canonT x.f0 = []) && decide (x.f1.length ≤ 100)) = true := by decide +kernel
theorem folds_facts : (foldsT.all fun x => decide (look43 foldsT x.f0 = x.f1) && (x.f1.all fun n => decide (look43 foldsT n = [])) && decide (x.f1.length ≤ 100)) = true := by decide +kernel
theorem Canon_f (c : Int) (l : List Int) (h : look41 canonT c = l) : ucd_Canon.f c = some l := congrArg some h
theorem Compat_f (c : Int) (l : List Int) (h : look43 compatT c = l) : ucd_Compat.f c = some l := congrArg some h
theorem Fold_f (c : Int) (l : List Int) (h : look43 foldsT c = l) : ucd_Fold.f c = some l := congrArg some h

theorem l0_ok (c d : Int) (lc : List Int) (l : List Int) (hl : l.length ≤ 100) (hf : (l.all fun n => decide (look43 foldsT n = [])) = true) (hc : look41 canonT c = []) : ∀ (r k j : Nat), r + 2500 < k → j + r = l.length →
    sobriquetlaw06_UcdMaps.l0 k (j : Int) c lc d l = some true
  | 0, k, j, hk, hj => by
    obtain ⟨k, rfl⟩ : ∃ m, k = m + 1 := ⟨k - 1, by omega⟩
    simp only [sobriquetlaw06_UcdMaps.l0]
    rw [if_neg (by omega), Canon_f c [] hc, Option.bind_some, if_pos (show (([] : List Int).length : Int) = 0 from rfl), wakes06 k (by omega)]
    rfl
  | r + 1, k, j, hk, hj => by
    obtain ⟨k, rfl⟩ : ∃ m, k = m + 1 := ⟨k - 1, by omega⟩
    have hlt : j < l.length := by omega
    have hn := of_decide_eq_true (List.all_eq_true.1 hf l[j] (List.getElem_mem _))
    simp only [sobriquetlaw06_UcdMaps.l0]
    rw [if_pos (by omega), if_pos (by omega), rd_at l j hlt, Fold_f _ [] hn, Option.bind_some, if_neg (by simp), wrap_succ j (by omega)]
    exact l0_ok c d lc l hl hf hc r k (j + 1) (by omega) (by omega)

theorem j2_ok (k : Nat) (hk : 2700 < k) (c d : Int) (lc : List Int) (l : List Int) (hl : l.length ≤ 100) (hf : (l.all fun n => decide (look43 foldsT n = [])) = true) (hc : look41 canonT c = []) :
    sobriquetlaw06_UcdMaps.j2 k false c lc d l = some true := by
  obtain ⟨k, rfl⟩ : ∃ m, k = m + 1 := ⟨k - 1, by omega⟩
  simp only [sobriquetlaw06_UcdMaps.j2]
  rw [if_neg Bool.false_ne_true]
  exact l0_ok c d lc l hl hf hc l.length k 0 (by omega) (by omega)

theorem get_at43 (l : List S43) (i : Nat) (h : i < l.length) : rd_T43 l (i : Int) = l[i] := by simp [rd_T43, List.getD_eq_getElem?_getD, h]
theorem get_at41 (l : List S41) (i : Nat) (h : i < l.length) : rd_T41 l (i : Int) = l[i] := by simp [rd_T41, List.getD_eq_getElem?_getD, h]

theorem j1_ok (k : Nat) (hk : 2800 < k) (a : Int) (ct ft : List S43) (hct : ct = compatT) (hft : ft = foldsT) (w : List Int) (x0 x1 x2 : Int) (hx : look41 canonT x0 = w) (hw : w.length ≤ 100)
    (lc : 0 < ct.length ∧ ct.length ≤ 1000) (lf : 0 < ft.length ∧ ft.length ≤ 1000) : sobriquetlaw06_UcdMaps.j1 k a ct ft w x0 x1 x2 = some true := by
  obtain ⟨k, rfl⟩ : ∃ m, k = m + 1 := ⟨k - 1, by omega⟩
  obtain ⟨i, hi, ei⟩ := idx a ct.length (by omega) (by omega)
  obtain ⟨q, hq, eq⟩ := idx a ft.length (by omega) (by omega)
  have Fc : (ct.all fun x => decide (look43 compatT x.f0 = x.f1) && decide (look41 canonT x.f0 = []) && decide (x.f1.length ≤ 100)) = true := by rw [hct]; exact compat_facts
  have Ff : (ft.all fun x => decide (look43 foldsT x.f0 = x.f1) && (x.f1.all fun n => decide (look43 foldsT n = [])) && decide (x.f1.length ≤ 100)) = true := by rw [hft]; exact folds_facts
  have hy := List.all_eq_true.1 Fc ct[i] (List.getElem_mem _)
  have hz := List.all_eq_true.1 Ff ft[q] (List.getElem_mem _)
  simp only [sobriquetlaw06_UcdMaps.j1]
  rw [ei, eq, get_at43 ct i hi, get_at43 ft q hq, u64_nat ct.length (by omega), u64_nat ft.length (by omega)]
  generalize ct[i] = y at *
  generalize ft[q] = z at *
  simp only [Bool.and_eq_true, decide_eq_true_eq] at hy hz
  obtain ⟨⟨hy1, hy2⟩, hy3⟩ := hy
  obtain ⟨⟨hz1, hz2⟩, hz3⟩ := hz
  rw [if_neg (by omega), if_pos (by omega), if_pos (by omega), if_neg (by omega), if_pos (by omega), if_pos (by omega)]
  rw [Canon_f x0 w hx, Option.bind_some, Ints_f w w k (by omega) (by omega), Option.bind_some, if_pos (decide_eq_true rfl)]
  rw [Compat_f _ _ hy1, Option.bind_some, Ints_f y.f1 y.f1 k (by omega) (by omega), Option.bind_some, if_pos (decide_eq_true rfl)]
  rw [Fold_f _ _ hz1, Option.bind_some, Ints_f z.f1 z.f1 k (by omega) (by omega), Option.bind_some]
  have e : (!decide (z.f1 = z.f1)) = false := by simp
  rw [e]
  exact j2_ok k (by omega) y.f0 z.f0 y.f1 z.f1 hz3 hz2 hy2

theorem j0_ok (k : Nat) (hk : 2900 < k) (a : Int) (nt : List S41) (hnt : nt = canonT) (ct ft : List S43) (hct : ct = compatT) (hft : ft = foldsT) (ln : 0 < nt.length ∧ nt.length ≤ 1000)
    (lc : 0 < ct.length ∧ ct.length ≤ 1000) (lf : 0 < ft.length ∧ ft.length ≤ 1000) : sobriquetlaw06_UcdMaps.j0 k a nt ct ft false = some true := by
  obtain ⟨k, rfl⟩ : ∃ m, k = m + 1 := ⟨k - 1, by omega⟩
  obtain ⟨i, hi, ei⟩ := idx a nt.length (by omega) (by omega)
  have Fn : (nt.all fun x => decide (look41 canonT x.f0 = took x.f1 x.f2)) = true := by rw [hnt]; exact canon_facts
  have hy := of_decide_eq_true (List.all_eq_true.1 Fn nt[i] (List.getElem_mem _))
  simp only [sobriquetlaw06_UcdMaps.j0]
  rw [ei, get_at41 nt i hi, u64_nat nt.length (by omega)]
  generalize nt[i] = x at *
  rw [if_neg Bool.false_ne_true, if_neg (by omega), if_pos (by omega), if_pos (by omega), Option.bind_some]
  by_cases h : x.f2 = 0
  · rw [if_pos h, if_pos (by simp)]
    refine j1_ok k (by omega) a ct ft hct hft _ _ _ _ ?_ (by simp) lc lf
    rw [hy]
    unfold took
    rw [if_pos h]
    rfl
  · rw [if_neg h]
    refine j1_ok k (by omega) a ct ft hct hft _ _ _ _ ?_ (by simp) lc lf
    rw [hy]
    unfold took
    rw [if_neg h]
theorem len_n : 0 < canonT.length ∧ canonT.length ≤ 1000 := by decide +kernel
theorem len_c : 0 < compatT.length ∧ compatT.length ≤ 1000 := by decide +kernel
theorem len_f : 0 < foldsT.length ∧ foldsT.length ≤ 1000 := by decide +kernel
end Maps

theorem UcdMaps_any (a : Int) (nt : List S41) (hnt : nt = canonT) (ct ft : List S43) (hct : ct = compatT) (hft : ft = foldsT) (ln : 0 < nt.length ∧ nt.length ≤ 1000)
    (lc : 0 < ct.length ∧ ct.length ≤ 1000) (lf : 0 < ft.length ∧ ft.length ≤ 1000) : (if (nt.length : Int) = 0 then (sobriquetlaw06_UcdMaps.j0 3000 a nt ct ft true) else (if (ct.length : Int) = 0 then (sobriquetlaw06_UcdMaps.j0 3000 a nt ct ft true) else (sobriquetlaw06_UcdMaps.j0 3000 a nt ct ft ((ft.length : Int) == 0)))) = some true := by
  rw [if_neg (by omega), if_neg (by omega)]
  have e : ((ft.length : Int) == 0) = false := beq_eq_false_iff_ne.2 (by omega)
  rw [e]
  exact Maps.j0_ok 3000 (by omega) a nt hnt ct ft hct hft ln lc lf
theorem UcdMaps : sobriquetlaw06_UcdMaps.Pure := by
  intro a0 _
  refine ⟨3000, ?_⟩
  unfold sobriquetlaw06_UcdMaps.f
  rw [canonT_of 3000 (by omega), Option.bind_some, compatT_of 3000 (by omega), Option.bind_some, foldsT_of 3000 (by omega), Option.bind_some]
  exact UcdMaps_any a0 canonT rfl compatT foldsT rfl rfl Maps.len_n Maps.len_c Maps.len_f
end Go.Proofs.Ytimpcabimncnfaa.Pure
