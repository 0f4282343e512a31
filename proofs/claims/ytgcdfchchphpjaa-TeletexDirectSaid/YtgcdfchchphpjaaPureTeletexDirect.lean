/- Proved here: for every at and which the statement TeletexDirect returns true. No condition. -/
import Derived.Test.YtgcdfchchphpjaaM19
import Derived.Test.YtgcdfchchphpjaaM15
import Derived.Test.YtgcdfchchphpjaaHWakes18
namespace Go.Proofs.Ytgcdfchchphpjaa.Pure
set_option linter.unusedVariables false
set_option linter.unusedSimpArgs false
open Go.RowKit Go.Proofs.Ytgcdfchchphpjaa.M Go.Proofs.YtgcdfchchphpjaaW.PrintWords Go.Proofs.YtgcdfchchphpjaaW.PrintLast

theorem u64_tmod18 (a : Int) (m : Nat) (hm : 0 < m) (hl : m ≤ 1000000000) : ∃ q : Nat, q < m ∧ wrap64 (Int.tmod (IntKind.u64.wrap a) (m : Int)) = (q : Int) := by
  have h0 : 0 ≤ IntKind.u64.wrap a := by simp only [IntKind.wrap, IntKind.bits, IntKind.signed]; simp; omega
  have e : Int.tmod (IntKind.u64.wrap a) (m : Int) = IntKind.u64.wrap a % (m : Int) := Int.tmod_eq_emod_of_nonneg h0
  have h1 : 0 ≤ IntKind.u64.wrap a % (m : Int) := Int.emod_nonneg _ (by omega)
  have h2 : IntKind.u64.wrap a % (m : Int) < (m : Int) := Int.emod_lt_of_pos _ (by omega)
  refine ⟨(IntKind.u64.wrap a % (m : Int)).toNat, by omega, ?_⟩
  rw [e, wrap_id _ (by omega) (by omega)]
  omega
theorem RefEscape_f (g set : Int) (hg : 0 ≤ g ∧ g ≤ 3) : sobriquetref13_Escape.f g set = some (if set = 87 then [27, 36, 40 + g, finalOf set % 256] else [27, 40 + g, finalOf set % 256]) := by
  unfold sobriquetref13_Escape.f sobriquetref13_Wide.f
  rw [Option.bind_some, Option.bind_some, Final_f, Option.bind_some, Option.bind_some, wrap_id (40 + g) (by omega) (by omega), show (40 + g) % 256 = 40 + g by omega]
  by_cases c : set = 87
  · rw [if_pos (show (set == 87) = true by simp [c]), if_pos c]; rfl
  · rw [if_neg (show ¬ (set == 87) = true by simp [c]), if_neg c]; rfl
/-- The entries of set 103. -/
def l103 : List S38 := codesAll.filter (fun x => x.f0 == 103)
theorem l103_len : l103.length = 53 := by decide +kernel
set_option maxRecDepth 1000000 in
theorem l103_facts : l103.all (fun x => decide (33 ≤ x.f1 ∧ x.f1 ≤ 126) && decide (getL 103 x.f1 codesAll = (x.f2, true))) = true := by decide +kernel
/-- What the loop collects. -/
def pick (l : List S38) : List S38 := l.filter (fun x => x.f0 == 103)
theorem direct_end (a0 a1 : Int) (k : Nat) (hk : 120000 ≤ k) : sobriquetlaw18_TeletexDirect.j1 k a0 a1 l103 setsAll false = some true := by
  obtain ⟨k, rfl⟩ : ∃ m, k = m + 1 := ⟨k - 1, by omega⟩
  obtain ⟨q, hq, e⟩ := u64_tmod18 a0 53 (by omega) (by omega)
  obtain ⟨q2, hq2, e2⟩ := u64_tmod18 a1 6 (by omega) (by omega)
  simp only [Int.cast_ofNat_Int] at e e2
  have w1 : IntKind.u64.wrap ((l103.length : Int)) = 53 := by rw [l103_len]; decide
  have w2 : IntKind.u64.wrap ((setsAll.length : Int)) = 6 := by decide
  simp only [sobriquetlaw18_TeletexDirect.j1]
  rw [if_neg Bool.false_ne_true, w1, w2, e, e2, if_neg (by decide), if_pos (by omega), if_pos (by rw [l103_len]; omega), if_neg (by decide), if_pos (by omega), if_pos (by show (q2 : Int) < 6; omega)]
  have hx : (fun x : S38 => decide (33 ≤ x.f1 ∧ x.f1 ≤ 126) && decide (getL 103 x.f1 codesAll = (x.f2, true))) (rd_T38 l103 (q : Int)) = true := by
    rw [rdT_code l103 q (by rw [l103_len]; exact hq)]
    exact List.all_eq_true.1 l103_facts _ (List.getElem_mem _)
  have hs : rd setsAll (q2 : Int) ∈ setsAll := by
    rw [rd_at setsAll q2 hq2]
    exact List.getElem_mem _
  generalize rd_T38 l103 (q : Int) = x at *
  generalize rd setsAll (q2 : Int) = set at *
  simp only [Bool.and_eq_true, decide_eq_true_eq] at hx
  obtain ⟨hp, hg⟩ := hx
  have he : sobriquetref13_Escape.f 0 set = some (escOf set) := by rw [RefEscape_f 0 set (by decide)]; rfl
  have hb : wrap64 (x.f1 + 128) % 256 = x.f1 + 128 := by rw [wrap_id _ (by omega) (by omega)]; omega
  have hlen := escOf_len set
  rw [he, Option.bind_some, hb, Option.bind_some, if_pos (by simp only [List.length_cons, List.length_nil]; omega)]
  -- the tokens
  have s0 := esc_steps (bs := escOf set ++ [x.f1 + 128]) (rest := [x.f1 + 128]) (s := rd0) (j := 0) (left := 102) hs ⟨rfl, rfl, rfl, rfl⟩ rfl rfl
  have s1 := steps_hi (bs := escOf set ++ [x.f1 + 128]) (s := { rd0 with i := ((0 + (escOf set).length : Nat) : Int), g0 := set }) (j := 0 + (escOf set).length) (set := 103) (p := x.f1) (rest := []) rfl (by rw [Nat.zero_add, List.drop_left]) hp rfl (by decide) (by decide)
  have st := s0.trans s1
  have hbytes : ∀ y ∈ escOf set ++ [x.f1 + 128], 0 ≤ y ∧ y ≤ 255 := by
    intro y hy
    rcases List.mem_append.1 hy with hy | hy
    · unfold escOf at hy
      split at hy <;> (simp only [List.mem_cons, List.not_mem_nil, or_false] at hy; omega)
    · rw [List.mem_singleton.1 hy]; omega
  have ht : shift_Tokens.f (escOf set ++ [x.f1 + 128]) = some ([⟨103, x.f1⟩], 0, 0) := by
    rw [shift_Tokens.f, if_pos ⟨List.all_eq_true.2 (fun y hy => decide_eq_true (hbytes y hy)), by simp only [List.length_append, List.length_cons, List.length_nil]; omega⟩, st.done (by simp only [List.length_append, List.length_cons, List.length_nil]; omega)]
    rfl
  rw [Read_f _ _ 0 0 ht (by simp) k (by omega), if_pos rfl, Option.bind_some]
  have hm : Means [⟨103, x.f1⟩] [x.f2] := Means.cons (toks := [⟨103, x.f1⟩]) (rest := []) (by simp) (fun r => by
    show oneT (⟨103, x.f1⟩ :: r) = _
    unfold oneT
    dsimp only
    rw [if_neg (by decide), hg, if_pos rfl]
    rfl) Means.nil
  rw [readL, hm.read _ _ _ (by simp)]
  dsimp only
  rw [if_pos rfl, List.nil_append, Ints_f _ _ k (by simp) (by simp only [List.length_cons, List.length_nil]; omega), Option.bind_some, if_pos (by simp), wakes18 110000 (by decide)]
  rfl
theorem direct_l0 (a0 a1 : Int) (l : List S38) (hl : l.length ≤ 100000) : ∀ (d k j : Nat) (xs : List S38), d + 130000 < k → j + d = l.length → xs.length ≤ j → xs ++ pick (l.drop j) = l103 → sobriquetlaw18_TeletexDirect.l0 k a0 a1 xs l (j : Int) = some true
  | 0, k, j, xs, hk, hj, hx, he => by
    obtain ⟨k, rfl⟩ : ∃ m, k = m + 1 := ⟨k - 1, by omega⟩
    rw [List.drop_eq_nil_of_le (by omega)] at he
    have he : xs = l103 := by rw [← he]; exact (List.append_nil xs).symm
    subst he
    simp only [sobriquetlaw18_TeletexDirect.l0]
    rw [if_neg (by omega), show api_Sets.f = some setsAll from rfl, Option.bind_some, if_neg (by rw [l103_len]; decide)]
    exact direct_end a0 a1 k (by omega)
  | d + 1, k, j, xs, hk, hj, hx, he => by
    obtain ⟨k, rfl⟩ : ∃ m, k = m + 1 := ⟨k - 1, by omega⟩
    have hlt : j < l.length := by omega
    simp only [sobriquetlaw18_TeletexDirect.l0]
    rw [List.drop_eq_getElem_cons hlt] at he
    rw [if_pos (by omega), if_pos (by omega), rdT_code l j hlt, wrap_succ j (by omega)]
    generalize l[j] = x at *
    by_cases c : x.f0 = 103
    · have he2 : (xs ++ [x]) ++ pick (l.drop (j + 1)) = l103 := by
        rw [← he, List.append_assoc, pick, pick, List.filter_cons, if_pos (by simp [c])]
        rfl
      rw [if_pos c, Option.bind_some, if_pos (by simp only [List.length_cons, List.length_nil]; omega)]
      exact direct_l0 a0 a1 l hl d k (j + 1) (xs ++ [x]) (by omega) (by omega) (by simp only [List.length_append, List.length_cons, List.length_nil]; omega) he2
    · have he2 : xs ++ pick (l.drop (j + 1)) = l103 := by
        rw [← he, pick, pick, List.filter_cons, if_neg (by simp [c])]
      rw [if_neg c]
      exact direct_l0 a0 a1 l hl d k (j + 1) xs (by omega) (by omega) (by omega) he2
theorem TeletexDirect : sobriquetlaw18_TeletexDirect.Pure := by
  intro a0 a1 _ _
  refine ⟨200000, ?_⟩
  unfold sobriquetlaw18_TeletexDirect.f
  rw [show api_Codes.f = some codesAll from rfl, Option.bind_some]
  exact direct_l0 a0 a1 codesAll (by rw [codes_len]; decide) codesAll.length 200000 0 [] (by rw [codes_len]; omega) (by omega) (Nat.le_refl _) (by unfold pick l103; rw [List.nil_append, List.drop_zero])
end Go.Proofs.Ytgcdfchchphpjaa.Pure
