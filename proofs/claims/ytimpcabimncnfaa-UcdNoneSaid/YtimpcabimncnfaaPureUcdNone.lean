/- Proved here: for every n and how the statement UcdNone returns true. No condition. -/
import Derived.Test.YtimpcabimncnfaaM10
import Derived.Test.YtimpcabimncnfaaLUcd
namespace Go.Proofs.Ytimpcabimncnfaa.Pure
set_option linter.unusedVariables false
set_option linter.unusedSimpArgs false
open Go.RowKit Go.Proofs.Ytimpcabimncnfaa.M Go.Proofs.YtimpcabimncnfaaW.PrintWords Go.Proofs.YtimpcabimncnfaaW.PrintLast

theorem look_none3 : ∀ (l : List S41) (c : Int), (l.all fun x => sca x.f0) = true → sca c = false → look41 l c = []
  | [], _, _, _ => rfl
  | x :: t, c, h, hc => by
    simp only [List.all_cons, Bool.and_eq_true] at h
    unfold look41
    rw [if_neg (fun e => by rw [e, hc] at h; exact absurd h.1 (by simp))]
    exact look_none3 t c h.2 hc
theorem look_noneM : ∀ (l : List S43) (c : Int), (l.all fun x => sca x.f0) = true → sca c = false → look43 l c = []
  | [], _, _, _ => rfl
  | x :: t, c, h, hc => by
    simp only [List.all_cons, Bool.and_eq_true] at h
    unfold look43
    rw [if_neg (fun e => by rw [e, hc] at h; exact absurd h.1 (by simp))]
    exact look_noneM t c h.2 hc

theorem none_a1 : (canonT.all fun x => sca x.f0) = true := by decide +kernel
theorem none_a2 : (compatT.all fun x => sca x.f0) = true := by decide +kernel
theorem none_a3 : (foldsT.all fun x => sca x.f0) = true := by decide +kernel
theorem none_c (c : Int) (hc : sca c = false) : ucd_Canon.f c = some [] := congrArg some (look_none3 _ _ none_a1 hc)
theorem none_k (c : Int) (hc : sca c = false) : ucd_Compat.f c = some [] := congrArg some (look_noneM _ _ none_a2 hc)
theorem none_d (c : Int) (hc : sca c = false) : ucd_Fold.f c = some [] := congrArg some (look_noneM _ _ none_a3 hc)
theorem none_z : wrap64 (wrap64 ((([] : List Int).length : Int) + (([] : List Int).length : Int)) + (([] : List Int).length : Int)) = 0 := by
  simp only [List.length_nil]
  unfold wrap64
  omega
theorem none_j0 (k : Nat) (hk : 3000 ≤ k) (c : Int) (hc : sca c = false) : sobriquetlaw06_UcdNone.j0 k c = some true := by
  obtain ⟨k, rfl⟩ : ∃ m, k = m + 1 := ⟨k - 1, by omega⟩
  have hh : ∀ t, hasOf t c = false := fun t => by unfold hasOf; rw [hc]; rfl
  have hcl : classOf c = 0 := by unfold classOf; rw [hc]; rfl
  simp only [sobriquetlaw06_UcdNone.j0]
  rw [Scalar_f, Assigned_f _ k (by omega), Nothing_f _ k (by omega), Space_f _ k (by omega), Prohibited_f _ k (by omega), Class_f _ k (by omega), hc, hh, hh, hh, hh, hcl]
  rw [none_c c hc, none_k c hc, none_d c hc, wakes06 k (by omega)]
  rw [Option.bind_some, if_neg Bool.false_ne_true, Option.bind_some, if_neg Bool.false_ne_true, Option.bind_some, if_neg Bool.false_ne_true, Option.bind_some, if_neg Bool.false_ne_true, Option.bind_some, if_neg Bool.false_ne_true, Option.bind_some, if_pos rfl, Option.bind_some, Option.bind_some, Option.bind_some]
  rw [if_pos none_z, Option.bind_some]

theorem u64_tmod (a : Int) (m : Nat) (hm : 0 < m) (hl : m ≤ 1000000000) : ∃ q : Nat, q < m ∧ wrap64 (Int.tmod (IntKind.u64.wrap a) (m : Int)) = (q : Int) ∧ Int.tmod (IntKind.u64.wrap a) (m : Int) = (q : Int) := by
  have h0 : 0 ≤ IntKind.u64.wrap a := by simp only [IntKind.wrap, IntKind.bits, IntKind.signed]; simp; omega
  have e : Int.tmod (IntKind.u64.wrap a) (m : Int) = IntKind.u64.wrap a % (m : Int) := Int.tmod_eq_emod_of_nonneg h0
  have h1 : 0 ≤ IntKind.u64.wrap a % (m : Int) := Int.emod_nonneg _ (by omega)
  have h2 : IntKind.u64.wrap a % (m : Int) < (m : Int) := Int.emod_lt_of_pos _ (by omega)
  refine ⟨(IntKind.u64.wrap a % (m : Int)).toNat, by omega, ?_, by rw [e]; omega⟩
  rw [e, wrap_id _ (by omega) (by omega)]
  omega

theorem UcdNone : sobriquetlaw06_UcdNone.Pure := by
  intro a0 a1 _ _
  refine ⟨3000, ?_⟩
  unfold sobriquetlaw06_UcdNone.f
  obtain ⟨q1, h1, e1, _⟩ := u64_tmod a0 100000 (by omega) (by omega)
  obtain ⟨q2, h2, e2, _⟩ := u64_tmod a0 2048 (by omega) (by omega)
  simp only [Int.cast_ofNat_Int] at e1 e2
  have e1' : wrap64 (Int.tmod (IntKind.u64.wrap a0) 100000) = (q1 : Int) := e1
  have e2' : wrap64 (Int.tmod (IntKind.u64.wrap a0) 2048) = (q2 : Int) := e2
  rw [e1', e2', wrap_id (1114112 + (q1 : Int)) (by omega) (by omega), wrap_id (-1 - (q1 : Int)) (by omega) (by omega), wrap_id (55296 + (q2 : Int)) (by omega) (by omega)]
  have f1 := none_j0 3000 (by omega) (1114112 + (q1 : Int)) (by unfold sca; exact decide_eq_false (by omega))
  have f2 := none_j0 3000 (by omega) (-1 - (q1 : Int)) (by unfold sca; exact decide_eq_false (by omega))
  have f3 := none_j0 3000 (by omega) (55296 + (q2 : Int)) (by unfold sca; exact decide_eq_false (by omega))
  split
  · exact f1
  · split
    · exact f2
    · exact f3
end Go.Proofs.Ytimpcabimncnfaa.Pure
