/- Proved here: for every at, c and n the statement TeletexAccents returns true. No condition. -/
import Derived.Test.YtgcdfchchphpjaaM13
import Derived.Test.YtgcdfchchphpjaaM12
import Derived.Test.YtgcdfchchphpjaaHWakes18
namespace Go.Proofs.Ytgcdfchchphpjaa.Pure
set_option linter.unusedVariables false
set_option linter.unusedSimpArgs false
open Go.RowKit Go.Proofs.Ytgcdfchchphpjaa.M Go.Proofs.YtgcdfchchphpjaaW.PrintWords Go.Proofs.YtgcdfchchphpjaaW.PrintLast

theorem u64_tmod18 (a : Int) (m : Nat) (hm : 0 < m) (hl : m ≤ 1000000000) : ∃ q : Nat, q < m ∧ wrap64 (Int.tmod (IntKind.u64.wrap a) (m : Int)) = (q : Int) := by
  have h0 : 0 ≤ IntKind.u64.wrap a := by simp only [IntKind.wrap, IntKind.bits, IntKind.signed]; simp; omega
  have e : Int.tmod (IntKind.u64.wrap a) (m : Int) = IntKind.u64.wrap a % (m : Int) := Int.tmod_eq_emod_of_nonneg h0
  have h1 : 0 ≤ IntKind.u64.wrap a % (m : Int) := Int.emod_nonneg _ (by omega)
  have h2 : IntKind.u64.wrap a % (m : Int) < (m : Int) := Int.emod_lt_of_pos _ (by omega)
  refine ⟨(IntKind.u64.wrap a % (m : Int)).toNat, by omega, ?_⟩
  rw [e, wrap_id _ (by omega) (by omega)]
  omega
abbrev Tk := S74
def xs (n : Nat) : List Int := List.replicate n 120
def xt (n : Nat) : List Tk := List.replicate n ⟨102, 120⟩
theorem xs_len (n : Nat) : (xs n).length = n := List.length_replicate
theorem xt_len (n : Nat) : (xt n).length = n := List.length_replicate
theorem xs_succ (n : Nat) : xs n ++ [120] = xs (n + 1) := List.replicate_succ'.symm
theorem get_letter (c : Int) (h : 65 ≤ c ∧ c ≤ 90 ∨ 97 ≤ c ∧ c ≤ 122) : getL 102 c codesAll = (c, true) := (find_tells 102 c c (letter_own c h).1).1
theorem get_49 : getL 102 49 codesAll = (49, true) := by decide +kernel

/-! ### the tokens -/
theorem xs_steps (bs rest : List Int) : ∀ (n j : Nat) (s : Rd), s.i = (j : Int) → gAt s s.left = 102 → bs.drop j = xs n ++ rest → M.Steps bs s { s with i := ((j + n : Nat) : Int), out := s.out ++ xt n }
  | 0, j, s, hi, hg, hd => by
    have e : ({ s with i := ((j + 0 : Nat) : Int), out := s.out ++ xt 0 } : Rd) = s := by
      rw [Nat.add_zero, ← hi]
      show ({ s with out := s.out ++ [] } : Rd) = s
      rw [List.append_nil]
    rw [e]
    exact M.Steps.refl _ _
  | n + 1, j, s, hi, hg, hd => by
    have hd2 : bs.drop j = 120 :: (xs n ++ rest) := hd
    have s1 := steps_lo hi hd2 (by decide) hg (by decide) (by decide)
    have s2 := xs_steps bs rest n (j + 1) { s with i := ((j + 1 : Nat) : Int), out := s.out ++ [⟨102, 120⟩] } rfl hg (drop_next hd2)
    have h := s1.trans s2
    dsimp only at h
    rw [List.append_assoc, show j + 1 + n = j + (n + 1) by omega] at h
    exact h
theorem pre_steps (n : Nat) (p : Int) (hp : 33 ≤ p ∧ p ≤ 126) (rest : List Int) :
    M.Steps (xs n ++ (p + 128) :: rest) rd0 { rd0 with i := ((n + 1 : Nat) : Int), out := xt n ++ [⟨103, p⟩] } := by
  have s0 := xs_steps (xs n ++ (p + 128) :: rest) ((p + 128) :: rest) n 0 rd0 rfl rfl rfl
  rw [Nat.zero_add] at s0
  have hd : (xs n ++ (p + 128) :: rest).drop n = (p + 128) :: rest := List.drop_left' (xs_len n)
  have s1 := steps_hi (bs := xs n ++ (p + 128) :: rest) (s := { rd0 with i := ((n : Nat) : Int), out := rd0.out ++ xt n }) (j := n) (set := 103) rfl hd hp rfl (by decide) (by decide)
  exact s0.trans s1
theorem xs_bytes (n : Nat) (tl : List Int) (h : ∀ y ∈ tl, 0 ≤ y ∧ y ≤ 255) : ((xs n ++ tl).all fun x => decide (0 ≤ x ∧ x ≤ 255)) = true := by
  refine List.all_eq_true.2 (fun y hy => decide_eq_true ?_)
  rcases List.mem_append.1 hy with hy | hy
  · rw [(List.mem_replicate.1 hy).2]; decide
  · exact h y hy
theorem tok1 (n : Nat) (hn : n ≤ 100) (p : Int) (hp : 33 ≤ p ∧ p ≤ 126) : shift_Tokens.f (xs n ++ [p + 128]) = some (xt n ++ [⟨103, p⟩], 0, 0) := by
  have h := pre_steps n p hp []
  rw [shift_Tokens.f, if_pos ⟨xs_bytes n _ (fun y hy => by rw [List.mem_singleton.1 hy]; omega), by simp only [List.length_append, List.length_cons, List.length_nil, xs_len]; omega⟩, h.done (by simp only [List.length_append, List.length_cons, List.length_nil, xs_len])]
theorem tok2 (n : Nat) (hn : n ≤ 100) (p b : Int) (hp : 33 ≤ p ∧ p ≤ 126) (t : Tk) (hb : (33 ≤ b ∧ b ≤ 126 ∧ t = ⟨102, b⟩) ∨ (b = 32 ∧ t = ⟨0, 32⟩)) : shift_Tokens.f (xs n ++ [p + 128, b]) = some (xt n ++ [⟨103, p⟩, t], 0, 0) := by
  have h := pre_steps n p hp [b]
  have hd : (xs n ++ [p + 128, b]).drop (n + 1) = [b] := by
    have : (xs n ++ [p + 128, b]) = (xs n ++ [p + 128]) ++ [b] := by rw [List.append_assoc]; rfl
    rw [this]
    exact List.drop_left' (by simp only [List.length_append, List.length_cons, List.length_nil, xs_len])
  rw [shift_Tokens.f, if_pos ⟨xs_bytes n _ (fun y hy => by simp only [List.mem_cons, List.not_mem_nil, or_false] at hy; omega), by simp only [List.length_append, List.length_cons, List.length_nil, xs_len]; omega⟩]
  rcases hb with ⟨b1, b2, rfl⟩ | ⟨rfl, rfl⟩
  · have s1 := steps_lo (bs := xs n ++ [p + 128, b]) (s := { rd0 with i := ((n + 1 : Nat) : Int), out := xt n ++ [⟨103, p⟩] }) (j := n + 1) (set := 102) rfl hd ⟨b1, b2⟩ rfl (by decide) (by decide)
    rw [(h.trans s1).done (by simp only [List.length_append, List.length_cons, List.length_nil, xs_len])]
    show some ((xt n ++ [⟨103, p⟩]) ++ _, _) = _
    rw [List.append_assoc]
    rfl
  · have s1 := steps_ctl (bs := xs n ++ [p + 128, 32]) (s := { rd0 with i := ((n + 1 : Nat) : Int), out := xt n ++ [⟨103, p⟩] }) (j := n + 1) rfl hd (by decide)
    rw [(h.trans s1).done (by simp only [List.length_append, List.length_cons, List.length_nil, xs_len])]
    show some ((xt n ++ [⟨103, p⟩]) ++ _, _) = _
    rw [List.append_assoc]
    rfl

/-! ### what they mean -/
theorem one_x (l : List Tk) : oneT (⟨102, 120⟩ :: l) = (120, 1, 0) := by
  unfold oneT
  dsimp only
  rw [if_neg (by decide), get_letter 120 (by decide), if_pos rfl]
theorem read_x (rest : List Tk) : ∀ (n m : Nat) (ys : List Int) (i : Int), readT (m + n) ys i (xt n ++ rest) = readT m (ys ++ xs n) (i + (n : Int)) rest
  | 0, m, ys, i => by
    show readT m ys i rest = readT m (ys ++ []) (i + 0) rest
    rw [List.append_nil, Int.add_zero]
  | n + 1, m, ys, i => by
    show readT ((m + n) + 1) ys i (⟨102, 120⟩ :: (xt n ++ rest)) = _
    rw [readT, one_x, if_pos rfl]
    show readT (m + n) (ys ++ [120]) (i + 1) (xt n ++ rest) = _
    rw [read_x rest n m, List.append_assoc, show i + 1 + (n : Int) = i + ((n + 1 : Nat) : Int) by omega]
    rfl
theorem readL_x (n : Nat) (rest : List Tk) : readL (xt n ++ rest) = readT (rest.length + 1) (xs n) (n : Int) rest := by
  unfold readL
  rw [List.length_append, xt_len, show n + rest.length + 1 = (rest.length + 1) + n by omega, read_x, List.nil_append, Int.zero_add]
theorem one_mark (p m lone : Int) (l : List Tk) (hm : markL p api_Accents.tbl = (m, lone, true)) (hg : (getL 103 p codesAll).2 = false) : oneT (⟨103, p⟩ :: l) = markT m lone l := by
  unfold oneT
  dsimp only
  rw [if_neg (by decide), hg, if_neg Bool.false_ne_true, hm, if_pos ⟨rfl, rfl⟩]
theorem read1 (n : Nat) (hn : n ≤ 100) (p m lone : Int) (hp : 33 ≤ p ∧ p ≤ 126) (hm : markL p api_Accents.tbl = (m, lone, true)) (hg : (getL 103 p codesAll).2 = false) (k : Nat) (hk : 110000 ≤ k) : teletex_Read.f k (xs n ++ [p + 128]) = some ([], (n : Int), 2) := by
  rw [Read_f _ _ 0 0 (tok1 n hn p hp) (by simp only [List.length_append, List.length_cons, List.length_nil, xt_len]; omega) k hk, if_pos rfl, readL_x]
  show some (readT 2 (xs n) (n : Int) [⟨103, p⟩]) = _
  rw [readT, one_mark p m lone _ hm hg]
  rfl
theorem read2 (n : Nat) (hn : n ≤ 100) (p m lone b : Int) (t : Tk) (hp : 33 ≤ p ∧ p ≤ 126) (hm : markL p api_Accents.tbl = (m, lone, true)) (hg : (getL 103 p codesAll).2 = false) (hb : (33 ≤ b ∧ b ≤ 126 ∧ t = ⟨102, b⟩) ∨ (b = 32 ∧ t = ⟨0, 32⟩)) (k : Nat) (hk : 110000 ≤ k) :
    teletex_Read.f k (xs n ++ [p + 128, b]) = some (if (underT m lone t).2 = true then (xs n ++ [(underT m lone t).1], 0, 0) else ([], (n : Int), 13)) := by
  rw [Read_f _ _ 0 0 (tok2 n hn p b hp t hb) (by simp only [List.length_append, List.length_cons, List.length_nil, xt_len]; omega) k hk, if_pos rfl, readL_x]
  show some (readT 3 (xs n) (n : Int) [⟨103, p⟩, t]) = _
  rw [readT, one_mark p m lone _ hm hg, markT]
  by_cases c : (underT m lone t).2 = true
  · rw [if_pos c, if_pos c]
    rfl
  · rw [if_neg c, if_neg c]
    rfl

/-! ### the law -/
theorem twin_xs (n : Nat) (hn : n ≤ 100) : sobriquetkeep_Twin.f (xs n) = some (xs n) := by
  unfold sobriquetkeep_Twin.f
  rw [if_pos (by simp only [List.length_nil, xs_len]; omega), List.nil_append]
theorem twinI_xs (n : Nat) (hn : n ≤ 100) : sobriquetkeep_TwinInts.f (xs n) = some (xs n) := by
  unfold sobriquetkeep_TwinInts.f
  rw [if_pos (by simp only [List.length_nil, xs_len]; omega), List.nil_append]
theorem accents_j1 (n : Nat) (hn : n ≤ 100) (p m lone : Int) (hp : 33 ≤ p ∧ p ≤ 126) (hm : markL p api_Accents.tbl = (m, lone, true)) (hg : (getL 103 p codesAll).2 = false) (k : Nat) (hk : 120000 ≤ k) :
    sobriquetlaw18_TeletexAccents.j1 k (n : Int) (xs n) (xs n) false p m lone = some true := by
  obtain ⟨k, rfl⟩ : ∃ q, k = q + 1 := ⟨k - 1, by omega⟩
  have hw : (wrap64 (p + 128)) % 256 = p + 128 := by rw [wrap_id _ (by omega) (by omega)]; omega
  have hl := xs_len n
  have u1 : underT m lone ⟨0, 32⟩ = (lone, true) := rfl
  have u2 : underT m lone ⟨102, 49⟩ = (0, false) := by
    unfold underT
    dsimp only
    rw [if_neg (by decide), if_pos (.inl rfl), get_49, if_pos rfl]
    rfl
  have r1 := read2 n hn p m lone 32 ⟨0, 32⟩ hp hm hg (.inr ⟨rfl, rfl⟩) k (by omega)
  have r2 := read1 n hn p m lone hp hm hg k (by omega)
  have r3 := read2 n hn p m lone 49 ⟨102, 49⟩ hp hm hg (.inl ⟨by decide, by decide, rfl⟩) k (by omega)
  rw [u1, if_pos rfl] at r1
  rw [u2, if_neg Bool.false_ne_true] at r3
  simp only [sobriquetlaw18_TeletexAccents.j1]
  rw [if_neg Bool.false_ne_true, twin_xs n hn, hw]
  simp only [Option.bind_some]
  rw [if_pos (by simp only [List.length_cons, List.length_nil, hl]; omega), r1]
  simp only [Option.bind_some]
  rw [if_pos (by simp only [List.length_cons, List.length_nil, hl]; omega), r2]
  simp only [Option.bind_some]
  rw [if_pos (by simp only [List.length_cons, List.length_nil, hl]; omega), r3]
  simp only [Option.bind_some]
  rw [if_pos trivial, if_pos (by simp only [List.length_cons, List.length_nil, hl]; omega), Ints_f _ _ k (by simp only [List.length_append, List.length_cons, List.length_nil, hl]; omega) (by simp only [List.length_append, List.length_cons, List.length_nil, hl]; omega)]
  simp only [Option.bind_some]
  rw [if_pos (by simp), if_pos trivial, if_pos trivial, if_pos trivial, if_pos trivial, wakes18 110000 (by decide)]
  rfl
theorem accents_l0 (n : Nat) (hn : n ≤ 100) (c p m lone : Int) (hc : 65 ≤ c ∧ c ≤ 90 ∨ 97 ≤ c ∧ c ≤ 122) (hp : 33 ≤ p ∧ p ≤ 126) (hm : markL p api_Accents.tbl = (m, lone, true)) (hg : (getL 103 p codesAll).2 = false) : ∀ (d k j : Nat), d + 130000 < k → j + d = n →
    sobriquetlaw18_TeletexAccents.l0 k c (n : Int) (xs j) (xs j) p m lone = some true
  | 0, k, j, hk, hj => by
    obtain ⟨k, rfl⟩ : ∃ q, k = q + 1 := ⟨k - 1, by omega⟩
    obtain rfl : j = n := by omega
    have hw : (wrap64 (p + 128)) % 256 = p + 128 := by rw [wrap_id _ (by omega) (by omega)]; omega
    have hl := xs_len j
    have u : underT m lone ⟨102, c⟩ = pairOf c m := by
      unfold underT
      dsimp only
      rw [if_neg (by decide), if_pos (.inl rfl), get_letter c hc, if_pos rfl]
      exact taken_letter c m hc
    have r := read2 j hn p m lone c ⟨102, c⟩ hp hm hg (.inl ⟨by omega, by omega, rfl⟩) k (by omega)
    rw [u] at r
    simp only [sobriquetlaw18_TeletexAccents.l0]
    rw [if_neg (by rw [hl]; omega), Pair_f _ _ k (by omega), Option.bind_some, twin_xs j hn, hw, show c % 256 = c by omega]
    simp only [Option.bind_some]
    rw [if_pos (by simp only [List.length_cons, List.length_nil, hl]; omega), r]
    simp only [Option.bind_some]
    by_cases h : (pairOf c m).2 = true
    · rw [if_pos h, if_pos h, if_pos rfl, twinI_xs j hn]
      simp only [Option.bind_some]
      rw [if_pos (by simp only [List.length_cons, List.length_nil, hl]; omega), Ints_f _ _ k (by simp only [List.length_append, List.length_cons, List.length_nil, hl]; omega) (by simp only [List.length_append, List.length_cons, List.length_nil, hl]; omega)]
      simp only [Option.bind_some]
      rw [if_pos (by simp)]
      exact accents_j1 j hn p m lone hp hm hg k (by omega)
    · rw [if_neg h, if_neg h, if_pos rfl, if_pos rfl]
      exact accents_j1 j hn p m lone hp hm hg k (by omega)
  | d + 1, k, j, hk, hj => by
    obtain ⟨k, rfl⟩ : ∃ q, k = q + 1 := ⟨k - 1, by omega⟩
    have hl := xs_len j
    simp only [sobriquetlaw18_TeletexAccents.l0]
    rw [if_pos (by rw [hl]; omega), Option.bind_some, if_pos (by simp only [List.length_cons, List.length_nil, hl]; omega), Option.bind_some, if_pos (by simp only [List.length_cons, List.length_nil, hl]; omega), xs_succ]
    exact accents_l0 n hn c p m lone hc hp hm hg d k (j + 1) (by omega) (by omega)
theorem TeletexAccents : sobriquetlaw18_TeletexAccents.Pure := by
  intro a0 a1 a2 _ _ _
  refine ⟨200000, ?_⟩
  obtain ⟨q, hq, e⟩ := u64_tmod18 a0 13 (by omega) (by omega)
  obtain ⟨q1, hq1, e1⟩ := u64_tmod18 a1 26 (by omega) (by omega)
  obtain ⟨q2, hq2, e2⟩ := u64_tmod18 (Int.tdiv (IntKind.u64.wrap a1) 26) 2 (by omega) (by omega)
  obtain ⟨n, hn, e3⟩ := u64_tmod18 a2 20 (by omega) (by omega)
  simp only [Int.cast_ofNat_Int] at e e1 e2 e3
  have hl : api_Accents.tbl.length = 13 := accents_len
  have hw : IntKind.u64.wrap ((api_Accents.tbl.length : Int)) = 13 := by rw [hl]; decide
  have hA := acc_facts
  have hR := acc_range
  obtain ⟨x, hx0⟩ : ∃ x, rd_T48 api_Accents.tbl (q : Int) = x := ⟨_, rfl⟩
  have hx : x ∈ api_Accents.tbl := by
    rw [← hx0, rdT_acc api_Accents.tbl q (by omega)]
    exact List.getElem_mem _
  have hf := List.all_eq_true.1 hA x hx
  have hr := of_decide_eq_true (List.all_eq_true.1 hR x hx)
  unfold accFacts at hf
  simp only [Bool.and_eq_true, decide_eq_true_eq] at hf
  unfold sobriquetlaw18_TeletexAccents.f
  rw [show api_Accents.f = some api_Accents.tbl from rfl, Option.bind_some, hw, e, e1, e2, e3, hx0, if_neg (by rw [hl]; decide), if_neg (by decide), if_pos (by omega), if_pos (by rw [hl]; omega), wrap_id (32 * (q2 : Int)) (by omega) (by omega), wrap_id (65 + (q1 : Int)) (by omega) (by omega), wrap_id (65 + (q1 : Int) + 32 * (q2 : Int)) (by omega) (by omega)]
  exact accents_l0 n (by omega) _ x.f0 x.f1 x.f2 (by omega) hr hf.1.1 hf.1.2 n 200000 0 (by omega) (by omega)
end Go.Proofs.Ytgcdfchchphpjaa.Pure
