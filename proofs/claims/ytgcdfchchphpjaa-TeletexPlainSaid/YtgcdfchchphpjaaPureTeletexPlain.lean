/- Proved here: for every l of 100 numbers at most the statement TeletexPlain returns true; for longer ones, too. No condition. -/
import Derived.Test.YtgcdfchchphpjaaM18
import Derived.Test.YtgcdfchchphpjaaHWakes18
namespace Go.Proofs.Ytgcdfchchphpjaa.Pure
set_option linter.unusedVariables false
set_option linter.unusedSimpArgs false
open Go.RowKit Go.Proofs.Ytgcdfchchphpjaa.M Go.Proofs.YtgcdfchchphpjaaW.PrintWords Go.Proofs.YtgcdfchchphpjaaW.PrintLast

theorem Has_p (c : Int) : teletex_Has.f c = some (scalarS 102 c).2.2 := rfl
def asciiB (c : Int) : Bool := decide (32 ≤ c ∧ c < 127 ∨ c = 8 ∨ c = 10 ∨ c = 12 ∨ c = 13)
theorem ascii_tab : (List.range 128).all (fun n => (scalarS 102 (n : Int)).2.2 == asciiB (n : Int)) = true := by decide +kernel
theorem ascii_at (n : Nat) (h : n < 128) : (scalarS 102 (n : Int)).2.2 = asciiB (n : Int) := by
  have := List.all_eq_true.1 ascii_tab n (List.mem_range.2 h)
  simpa using this
/-- What the law puts: letters, digits and spaces. -/
def plainC (c : Int) : Bool := decide (c = 32 ∨ (48 ≤ c ∧ c ≤ 57) ∨ (65 ≤ c ∧ c ≤ 90) ∨ (97 ≤ c ∧ c ≤ 122)) || decide (c = 91 ∨ c = 93 ∨ c = 95)
theorem plain_tab : (List.range 128).all (fun n => if plainC (n : Int) = true then decide (scalarS 102 (n : Int) = (102, [(n : Int)], true)) else true) = true := by decide +kernel
theorem plain_at (c : Int) (h : plainC c = true) : scalarS 102 c = (102, [c], true) := by
  have hr : 0 ≤ c ∧ c < 128 := by
    unfold plainC at h
    simp only [Bool.or_eq_true, decide_eq_true_eq] at h
    omega
  obtain ⟨n, rfl⟩ : ∃ n : Nat, c = (n : Int) := ⟨c.toNat, by omega⟩
  have := List.all_eq_true.1 plain_tab n (List.mem_range.2 (by omega))
  rw [if_pos h] at this
  exact of_decide_eq_true this
theorem putT_plain : ∀ (s xs : List Int) (i : Nat), (∀ x ∈ s, plainC x = true) → putT 102 xs i s = (xs ++ s, 0, 0)
  | [], xs, i, h => by rw [putT, List.append_nil]
  | c :: t, xs, i, h => by
    rw [putT, plain_at c (h c List.mem_cons_self), if_pos rfl]
    dsimp only
    rw [putT_plain t (xs ++ [c]) (i + 1) (fun x hx => h x (List.mem_cons_of_mem _ hx)), List.append_assoc]
    rfl
theorem plain_l1 (s : List Int) (hl : s.length ≤ 100) : ∀ (d k j : Nat), d + 200 < k → j + d = 128 → sobriquetlaw18_TeletexPlain.l1 k s s 0 (j : Int) = some true
  | 0, k, j, hk, hj => by
    obtain ⟨k, rfl⟩ : ∃ m, k = m + 1 := ⟨k - 1, by omega⟩
    simp only [sobriquetlaw18_TeletexPlain.l1]
    rw [if_neg (by omega), if_pos trivial, Bytes_f _ _ k (by omega) (by omega), Option.bind_some, if_pos (by simp), wakes18 110000 (by decide)]
    rfl
  | d + 1, k, j, hk, hj => by
    obtain ⟨k, rfl⟩ : ∃ m, k = m + 1 := ⟨k - 1, by omega⟩
    have ih := plain_l1 s hl d k (j + 1) (by omega) (by omega)
    simp only [sobriquetlaw18_TeletexPlain.l1]
    rw [if_pos (by omega), Has_p, Option.bind_some, ascii_at j (by omega), wrap_succ j (by omega), ih]
    unfold asciiB
    by_cases c1 : (j : Int) ≥ 32
    · rw [if_pos c1]
      by_cases c2 : (j : Int) < 127
      · rw [if_pos c2, decide_eq_true (by omega)]; rfl
      · rw [if_neg c2, if_neg (by omega), if_neg (by omega), if_neg (by omega), decide_eq_false (by omega)]
        have : ((j : Int) == 13) = false := by simp; omega
        rw [this]; rfl
    · rw [if_neg c1]
      by_cases c3 : (j : Int) = 8
      · rw [if_pos c3, decide_eq_true (by omega)]; rfl
      · rw [if_neg c3]
        by_cases c4 : (j : Int) = 10
        · rw [if_pos c4, decide_eq_true (by omega)]; rfl
        · rw [if_neg c4]
          by_cases c5 : (j : Int) = 12
          · rw [if_pos c5, decide_eq_true (by omega)]; rfl
          · rw [if_neg c5]
            by_cases c6 : (j : Int) = 13
            · rw [decide_eq_true (by omega)]
              have : ((j : Int) == 13) = true := by simp [c6]
              rw [this]; rfl
            · rw [decide_eq_false (by omega)]
              have : ((j : Int) == 13) = false := by simp [c6]
              rw [this]; rfl
theorem plain_end (s : List Int) (hl : s.length ≤ 100) (hp : ∀ x ∈ s, plainC x = true) (k : Nat) (hk : 400 ≤ k) : ((teletex_Put.f s).bind fun bt => sobriquetlaw18_TeletexPlain.l1 k s bt.1 bt.2.2 0) = some true := by
  rw [teletex_Put.f, if_pos (by omega), putT_plain s [] 0 hp, Option.bind_some]
  exact plain_l1 s hl 128 k 0 (by omega) rfl
theorem plain_num (x : Int) : ∃ v : Int, wrap64 (32 + (wrap64 (Int.tmod (IntKind.u64.wrap x) 91))) = v ∧ 32 ≤ v ∧ v ≤ 122 := by
  have h0 : 0 ≤ IntKind.u64.wrap x := by simp only [IntKind.wrap, IntKind.bits, IntKind.signed]; simp; omega
  have e : Int.tmod (IntKind.u64.wrap x) 91 = IntKind.u64.wrap x % 91 := Int.tmod_eq_emod_of_nonneg h0
  rw [e]
  generalize IntKind.u64.wrap x = y at *
  refine ⟨_, rfl, ?_, ?_⟩
  · rw [wrap_id (y % 91) (by omega) (by omega), wrap_id _ (by omega) (by omega)]; omega
  · rw [wrap_id (y % 91) (by omega) (by omega), wrap_id _ (by omega) (by omega)]; omega
theorem plain_l0 (l : List Int) (hl : l.length ≤ 100) : ∀ (d k j : Nat) (s : List Int), d + 500 < k → j + d = l.length → s.length = j → (∀ x ∈ s, plainC x = true) → sobriquetlaw18_TeletexPlain.l0 k l s s (j : Int) = some true
  | 0, k, j, s, hk, hj, hs, hp => by
    obtain ⟨k, rfl⟩ : ∃ m, k = m + 1 := ⟨k - 1, by omega⟩
    simp only [sobriquetlaw18_TeletexPlain.l0]
    rw [if_neg (by omega)]
    have := plain_end s (by omega) hp k (by omega)
    rw [teletex_Put.f, if_pos (by omega), Option.bind_some] at this ⊢
    rw [putT_plain s [] 0 hp] at this ⊢
    exact this
  | d + 1, k, j, s, hk, hj, hs, hp => by
    obtain ⟨k, rfl⟩ : ∃ m, k = m + 1 := ⟨k - 1, by omega⟩
    simp only [sobriquetlaw18_TeletexPlain.l0]
    obtain ⟨v, hv, hv1, hv2⟩ := plain_num (rd l (j : Int))
    have hx1 : s.length < 17592186044416 := by omega
    have hx2 : s.length < 140737488355328 := by omega
    rw [if_pos (by omega), if_pos (by omega), hv, wrap_succ j (by omega)]
    simp only [eq_true hx1, eq_true hx2, if_true]
    have hm : v % 256 = v := by omega
    rw [hm]
    have key : ∀ u, plainC u = true → sobriquetlaw18_TeletexPlain.l0 k l (s ++ [u]) (s ++ [u]) ((j + 1 : Nat) : Int) = some true := fun u hu =>
      plain_l0 l hl d k (j + 1) (s ++ [u]) (by omega) (by omega) (by simp [hs]) (fun x hx => by
        rcases List.mem_append.1 hx with hx | hx
        · exact hp x hx
        · rw [List.mem_singleton.1 hx]; exact hu)
    have k97 := key 97 (by decide)
    have kv : ¬ (33 ≤ v ∧ v ≤ 47) → ¬ (58 ≤ v ∧ v ≤ 64) → v ≠ 92 → v ≠ 94 → v ≠ 96 → sobriquetlaw18_TeletexPlain.l0 k l (s ++ [v]) (s ++ [v]) ((j + 1 : Nat) : Int) = some true := fun a1 a2 a3 a4 a5 => key v (by
      unfold plainC
      simp only [Bool.or_eq_true, decide_eq_true_eq]
      omega)
    repeat' split
    all_goals first
      | exact k97
      | exact kv (by omega) (by omega) (by omega) (by omega) (by omega)
theorem TeletexPlain : sobriquetlaw18_TeletexPlain.Pure := by
  intro l _ _ _
  refine ⟨2000, ?_⟩
  unfold sobriquetlaw18_TeletexPlain.f
  by_cases hlen : (l.length : Int) > 100
  · rw [if_pos hlen]
  · rw [if_neg hlen]
    exact plain_l0 l (by omega) l.length 2000 0 [] (by omega) (by omega) rfl (fun x hx => absurd hx (by simp))
end Go.Proofs.Ytgcdfchchphpjaa.Pure
