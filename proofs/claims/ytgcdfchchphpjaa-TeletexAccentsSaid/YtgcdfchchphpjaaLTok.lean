/- Proved here, in plain Lean: what tokens mean; what is written for a scalar is read as tokens that mean it. -/
import Derived.Test.YtgcdfchchphpjaaM10
import Derived.Test.YtgcdfchchphpjaaLTele
namespace Go.Proofs.Ytgcdfchchphpjaa.M
set_option linter.unusedVariables false
set_option linter.unusedSimpArgs false
open Go.RowKit Go.Proofs.YtgcdfchchphpjaaW.PrintWords Go.Proofs.YtgcdfchchphpjaaW.PrintLast Go.Proofs.YtgcdfchchphpjaaW.PrintMore

/-! ### what tokens mean -/
def underT (mark alone : Int) (t : S74) : Int × Bool :=
  if t.f0 = 0 then (alone, t.f1 == 32)
  else if t.f0 = 102 ∨ t.f0 = 6 then (if (getL t.f0 t.f1 codesAll).2 = true then takenOf (getL t.f0 t.f1 codesAll).1 mark else (0, false))
  else (0, false)
def markT (m a : Int) : List S74 → Int × Int × Int
  | [] => (0, 0, 2)
  | u :: _ => if (underT m a u).2 = true then ((underT m a u).1, 2, 0) else (0, 0, 13)
def oneT : List S74 → Int × Int × Int
  | [] => (0, 0, 0)
  | t :: rest => if t.f0 = 0 then (t.f1, 1, 0) else if (getL t.f0 t.f1 codesAll).2 = true then ((getL t.f0 t.f1 codesAll).1, 1, 0)
    else if t.f0 = 103 ∧ (markL t.f1 api_Accents.tbl).2.2 = true then markT (markL t.f1 api_Accents.tbl).1 (markL t.f1 api_Accents.tbl).2.1 rest else (0, 0, 13)
theorem Under_f (m a : Int) (t : S74) (k : Nat) (hk : 3001 ≤ k) : teletex_under.f k m a t.f0 t.f1 = some (underT m a t) := by
  obtain ⟨k, rfl⟩ : ∃ n, k = n + 1 := ⟨k - 1, by omega⟩
  unfold teletex_under.f underT
  by_cases c0 : t.f0 = 0
  · rw [if_pos c0, if_pos c0]
  · rw [if_neg c0, if_neg c0]
    have hj : ∀ b : Bool, teletex_under.j0 (k + 1) m b t.f0 t.f1 = some (if b = true then (if (getL t.f0 t.f1 codesAll).2 = true then takenOf (getL t.f0 t.f1 codesAll).1 m else (0, false)) else (0, false)) := by
      intro b
      simp only [teletex_under.j0]
      cases b with
      | false => rw [if_neg Bool.false_ne_true, if_neg Bool.false_ne_true]
      | true =>
        rw [if_pos rfl, if_pos rfl, Get_f _ _ k (by omega), Option.bind_some]
        by_cases c : (getL t.f0 t.f1 codesAll).2 = true
        · rw [if_pos c, if_pos c, Taken_f _ _ k (by omega), Option.bind_some]
        · rw [if_neg c, if_neg c]
    by_cases c1 : t.f0 = 102
    · rw [if_pos c1, hj, if_pos (show t.f0 = 102 ∨ t.f0 = 6 from .inl c1), if_pos (show (t.f0 == 102) = true by simp [c1])]
    · rw [if_neg c1, hj]
      by_cases c2 : t.f0 = 6
      · rw [if_pos (show t.f0 = 102 ∨ t.f0 = 6 from .inr c2), if_pos (show (t.f0 == 6) = true by simp [c2])]
      · rw [if_neg (show ¬ (t.f0 = 102 ∨ t.f0 = 6) from fun h => h.elim c1 c2), if_neg (show ¬ (t.f0 == 6) = true by simp [c2])]
theorem One_f (t : S74) (rest : List S74) (k : Nat) (hk : 3002 ≤ k) : teletex_one.f k (t :: rest) = some (oneT (t :: rest)) := by
  obtain ⟨k, rfl⟩ : ∃ n, k = n + 1 := ⟨k - 1, by omega⟩
  have e0 : rd_T74 (t :: rest) 0 = t := rfl
  have hn : ((t :: rest).length : Int) = (rest.length : Int) + 1 := by simp
  have hj : ∀ (m a : Int) (b : Bool), teletex_one.j0 (k + 1) (t :: rest) m a b = some (if b = true then (0, 0, 13) else markT m a rest) := by
    intro m a b
    simp only [teletex_one.j0]
    cases b with
    | true => rw [if_pos rfl, if_pos rfl]
    | false =>
      rw [if_neg Bool.false_ne_true, if_neg Bool.false_ne_true]
      cases rest with
      | nil => rw [if_pos (by simp)]; rfl
      | cons u r =>
        have e1 : rd_T74 (t :: u :: r) 1 = u := rfl
        rw [if_neg (by simp only [List.length_cons]; omega), if_pos (by simp only [List.length_cons]; omega), e1, Under_f _ _ _ k (by omega), Option.bind_some, markT]
        by_cases c : (underT m a u).2 = true
        · rw [if_pos c, if_pos c]
        · rw [if_neg c, if_neg c]
  unfold teletex_one.f
  rw [oneT]
  rw [if_pos (by omega), e0]
  by_cases c0 : t.f0 = 0
  · rw [if_pos c0, if_pos c0]
  · rw [if_neg c0, if_neg c0, Get_f _ _ (k + 1) (by omega), Option.bind_some]
    by_cases c1 : (getL t.f0 t.f1 codesAll).2 = true
    · rw [if_pos c1, if_pos c1]
    · rw [if_neg c1, if_neg c1, Mark_f _ (k + 1) (by omega), Option.bind_some]
      by_cases c2 : t.f0 = 103
      · rw [if_pos c2, hj]
        cases c3 : (markL t.f1 api_Accents.tbl).2.2 with
        | true => rw [if_neg (show ¬ (!true) = true by decide), if_pos (show t.f0 = 103 ∧ true = true from ⟨c2, rfl⟩)]
        | false => rw [if_pos (show (!false) = true from rfl), if_neg (show ¬ (t.f0 = 103 ∧ false = true) from fun h => Bool.false_ne_true h.2)]
      · rw [if_neg c2, hj, if_pos rfl, if_neg (fun h => c2 h.1)]

/-! ### the tables -/
def codeFact2 (x : S38) : Bool :=
  decide (getL x.f0 x.f1 codesAll = (x.f2, true)) && ((x.f0 == 87) == decide (x.f1 > 255)) && decide (33 ≤ x.f1 % 256 ∧ x.f1 % 256 ≤ 126) && decide (0 ≤ x.f1 ∧ x.f1 ≤ 32382) && decide (x.f1 > 255 → 33 ≤ x.f1 / 256) && decide (x.f0 ∈ setsL)
set_option maxRecDepth 1000000 in
theorem code_facts2 : codesAll.all codeFact2 = true := by decide +kernel
theorem findL_mem (a c p : Int) : ∀ (l : List S38), findL a c l = (p, true) → ∃ x ∈ l, x.f0 = a ∧ x.f2 = c ∧ x.f1 = p
  | [], h => by simp [findL] at h
  | x :: t, h => by
    unfold findL at h
    by_cases e : x.f0 = a ∧ x.f2 = c
    · rw [if_pos e] at h
      exact ⟨x, List.mem_cons_self, e.1, e.2, congrArg Prod.fst h⟩
    · rw [if_neg e] at h
      obtain ⟨y, hy, h1⟩ := findL_mem a c p t h
      exact ⟨y, List.mem_cons_of_mem _ hy, h1⟩
theorem markL_mem (p n lone : Int) : ∀ (l : List S48), markL p l = (n, lone, true) → ∃ x ∈ l, x.f0 = p ∧ x.f1 = n ∧ x.f2 = lone
  | [], h => by simp [markL] at h
  | x :: t, h => by
    unfold markL at h
    by_cases e : x.f0 = p
    · rw [if_pos e] at h
      simp only [Prod.mk.injEq] at h
      exact ⟨x, List.mem_cons_self, e, h.1, h.2.1⟩
    · rw [if_neg e] at h
      obtain ⟨y, hy, h1⟩ := markL_mem p n lone t h
      exact ⟨y, List.mem_cons_of_mem _ hy, h1⟩
/-- What a find tells of the place. -/
theorem find_tells (a c p : Int) (h : findL a c codesAll = (p, true)) : getL a p codesAll = (c, true) ∧ (a = 87 ↔ p > 255) ∧ (33 ≤ p % 256 ∧ p % 256 ≤ 126) ∧ (0 ≤ p ∧ p ≤ 32382) ∧ (p > 255 → 33 ≤ p / 256) := by
  obtain ⟨x, hx, rfl, rfl, rfl⟩ := findL_mem a c p codesAll h
  have hf := List.all_eq_true.1 code_facts2 x hx
  unfold codeFact2 at hf
  simp only [Bool.and_eq_true, decide_eq_true_eq] at hf
  obtain ⟨⟨⟨⟨⟨h1, h2⟩, h3⟩, h4⟩, h5⟩, _⟩ := hf
  refine ⟨h1, ?_, h3, h4, h5⟩
  have h6 : (x.f0 == 87) = decide (x.f1 > 255) := by simpa using h2
  constructor
  · intro e
    rw [e] at h6
    exact of_decide_eq_true (h6.symm.trans (by decide))
  · intro e
    rw [decide_eq_true e] at h6
    simpa using h6
theorem acc_range : api_Accents.tbl.all (fun x => decide (33 ≤ x.f0 ∧ x.f0 ≤ 126)) = true := by decide +kernel
theorem mark_tells (p n lone : Int) (h : markL p api_Accents.tbl = (n, lone, true)) : (33 ≤ p ∧ p ≤ 126) ∧ (getL 103 p codesAll).2 = false ∧ accentOf lone = (p, 32, true) := by
  obtain ⟨x, hx, rfl, rfl, rfl⟩ := markL_mem p n lone _ h
  have h1 := of_decide_eq_true (List.all_eq_true.1 acc_range x hx)
  have h2 := List.all_eq_true.1 acc_facts x hx
  unfold accFacts at h2
  simp only [Bool.and_eq_true, decide_eq_true_eq] at h2
  exact ⟨h1, h2.1.2, h2.2⟩
theorem taken_letter (l n : Int) (h : 65 ≤ l ∧ l ≤ 90 ∨ 97 ≤ l ∧ l ≤ 122) : takenOf l n = pairOf l n := by
  unfold takenOf
  rw [if_neg (by omega), if_neg (by omega)]
  split
  · rw [if_neg (by omega)]
  · rfl
theorem set_tab : setsAll.all (fun s => if s = 87 then decide (byL 66 true setsL = (87, true)) else decide (byL (finalOf s % 256) false setsL = (s, true))) = true := by decide +kernel
theorem u8_wrap (x : Int) : IntKind.u8.wrap x = x % 256 := by simp [IntKind.wrap, IntKind.bits, IntKind.signed]

/-! ### what is written for a scalar -/
/-- The reader's state that fits a writer's: the left set is 'left'. -/
structure Fit (s : Rd) (left : Int) : Prop where
  g0 : s.g0 = left
  g2 : s.g2 = 103
  l : s.left = 0
  r : s.right = 2
theorem Fit.gl {s : Rd} {left : Int} (h : Fit s left) : gAt s s.left = left := by
  rw [h.l]
  exact h.g0
theorem Fit.gr {s : Rd} {left : Int} (h : Fit s left) : gAt s s.right = 103 := by
  rw [h.r]
  exact h.g2
section
variable {bs rest : List Int} {s : Rd} {j : Nat}
theorem place_steps {left ch p : Int} (hF : findL left ch codesAll = (p, true)) (h0 : left ≠ 0) (hfit : Fit s left) (hi : s.i = (j : Int)) (hd : bs.drop j = placeB left p true ++ rest) :
    Steps bs s { s with i := ((j + (placeB left p true).length : Nat) : Int), out := s.out ++ [⟨left, p⟩] } ∧ ∀ r, oneT ([⟨left, p⟩] ++ r) = (ch, 1, 0) := by
  obtain ⟨h1, h2, h3, h4, h5⟩ := find_tells left ch p hF
  refine ⟨?_, fun r => ?_⟩
  · by_cases c : left = 87
    · have e : placeB left p true = [p / 256, p % 256] := by
        have := h2.1 c
        rw [placeB, if_pos rfl, if_pos c, u8_wrap, u8_wrap]
        congr 1
        omega
      have hp := h5 (h2.1 c)
      rw [e] at hd ⊢
      have := steps_two hi hd ⟨hp, by omega⟩ h3 (by rw [hfit.gl]; exact c)
      rw [show p / 256 * 256 + p % 256 = p by omega] at this
      rw [c]
      exact this
    · have hp : ¬ p > 255 := fun h => c (h2.2 h)
      have e : placeB left p true = [p] := by
        rw [placeB, if_pos rfl, if_neg c, u8_wrap]
        congr 1
        omega
      rw [e] at hd ⊢
      exact steps_lo hi hd (by omega) hfit.gl h0 c
  · show oneT (⟨left, p⟩ :: r) = _
    unfold oneT
    dsimp only
    rw [if_neg h0, h1, if_pos rfl]
theorem right_steps {left ch p : Int} (hF : findL 103 ch codesAll = (p, true)) (hfit : Fit s left) (hi : s.i = (j : Int)) (hd : bs.drop j = markB p :: rest) :
    Steps bs s { s with i := ((j + 1 : Nat) : Int), out := s.out ++ [⟨103, p⟩] } ∧ ∀ r, oneT ([⟨103, p⟩] ++ r) = (ch, 1, 0) := by
  obtain ⟨h1, h2, h3, h4, h5⟩ := find_tells 103 ch p hF
  have hp : ¬ p > 255 := fun h => absurd (h2.2 h) (by decide)
  have hp2 : 33 ≤ p ∧ p ≤ 126 := by omega
  refine ⟨?_, fun r => ?_⟩
  · rw [(lo_at p hp2).2.2] at hd
    exact steps_hi hi hd hp2 hfit.gr (by decide) (by decide)
  · show oneT (⟨103, p⟩ :: r) = _
    unfold oneT
    dsimp only
    rw [if_neg (by decide), h1, if_pos rfl]
theorem esc_steps {left set : Int} (hs : set ∈ setsAll) (hfit : Fit s left) (hi : s.i = (j : Int)) (hd : bs.drop j = escOf set ++ rest) :
    Steps bs s { s with i := ((j + (escOf set).length : Nat) : Int), g0 := set } := by
  have ht := List.all_eq_true.1 set_tab set hs
  unfold escOf at hd ⊢
  by_cases c : set = 87
  · rw [if_pos c] at ht hd ⊢
    subst c
    exact steps_set87 (gi := 0) hi hd (by decide) (by decide) (of_decide_eq_true ht)
  · rw [if_neg c] at ht hd ⊢
    exact steps_set (gi := 0) hi hd (by decide) (by decide) (of_decide_eq_true ht)
/-- The mark of an accent, then its letter or a space. -/
theorem accent_steps {left ch p l : Int} (hA : accentOf ch = (p, l, true)) (hl : left ∈ setsAll) (hfit : Fit s left) (hi : s.i = (j : Int)) (hd : bs.drop j = accB2 left p l ++ rest) :
    ∃ toks, toks.length = 2 ∧ (∀ r, oneT (toks ++ r) = (ch, 2, 0)) ∧ Steps bs s { s with i := ((j + (accB2 left p l).length : Nat) : Int), g0 := accLeft left l, out := s.out ++ toks } ∧ accLeft left l ∈ setsAll := by
  have hW := accent_worth ch
  rw [hA] at hW
  simp only [Worth, if_true] at hW
  obtain ⟨n, lone, hm, hW⟩ := hW
  obtain ⟨hp, hg, _⟩ := mark_tells p n lone hm
  -- the two tokens' meaning
  have mean : ∀ u r, underT n lone u = (ch, true) → oneT ([⟨103, p⟩, u] ++ r) = (ch, 2, 0) := by
    intro u r hu
    show oneT (⟨103, p⟩ :: u :: r) = _
    unfold oneT
    dsimp only
    rw [if_neg (by decide), hg, if_neg Bool.false_ne_true, hm, if_pos ⟨rfl, rfl⟩]
    dsimp only
    rw [markT, hu, if_pos rfl]
  rcases hW with ⟨rfl, rfl⟩ | ⟨h1, h2, h3⟩
  · -- ahead of a space
    have e : accB2 left p 32 = [p + 128, 32] := by rw [accB2, if_pos (.inl rfl), (lo_at p hp).2.2]; rfl
    have e2 : accLeft left 32 = left := by rw [accLeft, if_pos (.inl rfl)]
    rw [e] at hd ⊢
    rw [e2]
    refine ⟨[⟨103, p⟩, ⟨0, 32⟩], rfl, fun r => mean _ r (by unfold underT; dsimp only; rw [if_pos rfl]; rfl), ?_, hl⟩
    have s1 := steps_hi hi hd hp hfit.gr (by decide) (by decide)
    have s2 := steps_ctl (bs := bs) (s := { s with i := ((j + 1 : Nat) : Int), out := s.out ++ [⟨103, p⟩] }) (j := j + 1) rfl (drop_next hd) (b := 32) (by decide)
    have := s1.trans s2
    dsimp only at this
    rw [List.append_assoc] at this
    have e3 : ({ s with g0 := left } : Rd) = s := by rw [← hfit.g0]
    have e4 : ({ s with i := ((j + 1 + 1 : Nat) : Int), out := s.out ++ ([⟨103, p⟩] ++ [⟨0, 32⟩]) } : Rd) = { s with i := ((j + [p + 128, 32].length : Nat) : Int), g0 := left, out := s.out ++ [⟨103, p⟩, ⟨0, 32⟩] } := by rw [← hfit.g0]; rfl
    rw [← e4]
    exact this
  · obtain ⟨h4, h5⟩ := letter_own l h3
    have h6 := (find_tells 102 l l h4).1
    have h7 := (find_tells 6 l l h5).1
    have h8 : takenOf l n = (ch, true) := by rw [taken_letter l n h3]; exact h2
    have hu : ∀ set, set = 102 ∨ set = 6 → underT n lone ⟨set, l⟩ = (ch, true) := by
      intro set hset
      unfold underT
      dsimp only
      rcases hset with rfl | rfl
      · rw [if_neg (by decide), if_pos (.inl rfl), h6, if_pos rfl]; exact h8
      · rw [if_neg (by decide), if_pos (.inr rfl), h7, if_pos rfl]; exact h8
    have hl2 : 33 ≤ l ∧ l ≤ 126 := by omega
    by_cases c : left = 102 ∨ left = 6
    · have e : accB2 left p l = [p + 128, l] := by rw [accB2, if_pos (.inr c), (lo_at p hp).2.2]; rfl
      have e2 : accLeft left l = left := by rw [accLeft, if_pos (.inr c)]
      rw [e] at hd ⊢
      rw [e2]
      refine ⟨[⟨103, p⟩, ⟨left, l⟩], rfl, fun r => mean _ r (hu left c), ?_, hl⟩
      have s1 := steps_hi hi hd hp hfit.gr (by decide) (by decide)
      have s2 := steps_lo (bs := bs) (s := { s with i := ((j + 1 : Nat) : Int), out := s.out ++ [⟨103, p⟩] }) (j := j + 1) (set := left) rfl (drop_next hd) hl2 hfit.gl (by omega) (by omega)
      have := s1.trans s2
      dsimp only at this
      rw [List.append_assoc] at this
      have e4 : ({ s with i := ((j + 1 + 1 : Nat) : Int), out := s.out ++ ([⟨103, p⟩] ++ [⟨left, l⟩]) } : Rd) = { s with i := ((j + [p + 128, l].length : Nat) : Int), g0 := left, out := s.out ++ [⟨103, p⟩, ⟨left, l⟩] } := by
        have hg0 := hfit.g0
        subst hg0
        rfl
      rw [← e4]
      exact this
    · have hc : ¬ (l = 32 ∨ left = 102 ∨ left = 6) := fun h => h.elim h1 c
      have e : accB2 left p l = escOf 102 ++ [p + 128, l] := by rw [accB2, if_neg hc, (lo_at p hp).2.2]
      have e2 : accLeft left l = 102 := by rw [accLeft, if_neg hc]
      rw [e, List.append_assoc] at hd
      rw [e, e2]
      refine ⟨[⟨103, p⟩, ⟨102, l⟩], rfl, fun r => mean _ r (hu 102 (.inl rfl)), ?_, by decide⟩
      have s0 := esc_steps (set := 102) (by decide) hfit hi hd
      have hd2 : bs.drop (j + (escOf 102).length) = [p + 128, l] ++ rest := by rw [← List.drop_drop, hd, List.drop_left]
      have s1 := steps_hi (bs := bs) (s := { s with i := ((j + (escOf 102).length : Nat) : Int), g0 := 102 }) (j := j + (escOf 102).length) (set := 103) rfl hd2 hp (by show gAt { s with i := _, g0 := 102 } s.right = 103; rw [hfit.r]; exact hfit.g2) (by decide) (by decide)
      have s2 := steps_lo (bs := bs) (s := { s with i := ((j + (escOf 102).length + 1 : Nat) : Int), g0 := 102, out := s.out ++ [⟨103, p⟩] }) (j := j + (escOf 102).length + 1) (set := 102) rfl (drop_next hd2) hl2 (by show gAt { s with i := _, g0 := 102, out := _ } s.left = 102; rw [hfit.l]; rfl) (by decide) (by decide)
      have := (s0.trans s1).trans s2
      dsimp only at this
      rw [List.append_assoc] at this
      rw [show j + (escOf 102 ++ [p + 128, l]).length = j + (escOf 102).length + 1 + 1 by simp; omega]
      exact this
theorem setFind_some (ch set : Int) : ∀ (l : List Int), setFind ch l = some set → set ∈ l ∧ (findL set ch codesAll).2 = true
  | [], h => by simp [setFind] at h
  | x :: t, h => by
    unfold setFind at h
    by_cases c : (findL x ch codesAll).2 = true
    · rw [if_pos c] at h
      obtain rfl := Option.some.inj h
      exact ⟨List.mem_cons_self, c⟩
    · rw [if_neg c] at h
      obtain ⟨h1, h2⟩ := setFind_some ch set t h
      exact ⟨List.mem_cons_of_mem _ h1, h2⟩
/-- A scalar that is written is read as one or two tokens that mean it. -/
theorem scalar_steps {left ch l2 : Int} {b2 : List Int} (hq : scalarS left ch = (l2, b2, true)) (hl : left ∈ setsAll) (hfit : Fit s left) (hi : s.i = (j : Int)) (hd : bs.drop j = b2 ++ rest) :
    ∃ toks, toks ≠ [] ∧ (∀ r, oneT (toks ++ r) = (ch, (toks.length : Int), 0)) ∧ Steps bs s { s with i := ((j + b2.length : Nat) : Int), g0 := l2, out := s.out ++ toks } ∧ l2 ∈ setsAll := by
  have hnz : ∀ x ∈ setsAll, x ≠ 0 := by decide
  have same : ∀ (n : Nat) (t : List S74), ({ s with i := (n : Int), g0 := left, out := t } : Rd) = { s with i := (n : Int), out := t } := fun n t => by
    have hg0 := hfit.g0
    subst hg0
    rfl
  by_cases hC : ch ∈ ctlAll
  · rw [scalarS_ctl left ch hC] at hq
    simp only [Prod.mk.injEq] at hq
    obtain ⟨rfl, rfl, _⟩ := hq
    have hb : IntKind.u8.wrap ch = ch := by
      rw [u8_wrap]
      simp only [ctlAll, List.mem_cons, List.not_mem_nil, or_false] at hC
      omega
    rw [hb] at hd
    have hc2 : ch ∈ ctl2 := by
      simp only [ctlAll, ctl2, List.mem_cons, List.not_mem_nil, or_false] at hC ⊢
      omega
    refine ⟨[⟨0, ch⟩], by simp, fun r => by show oneT (⟨0, ch⟩ :: r) = _; unfold oneT; dsimp only; rw [if_pos rfl]; rfl, ?_, hl⟩
    rw [same]
    exact steps_ctl hi hd hc2
  · by_cases hL : (findL left ch codesAll).2 = true
    · rw [scalarS_left left ch hC hL] at hq
      simp only [Prod.mk.injEq] at hq
      obtain ⟨rfl, rfl, _⟩ := hq
      obtain ⟨⟨p, i0⟩, hF⟩ : ∃ x, findL left ch codesAll = x := ⟨_, rfl⟩
      rw [hF] at hL
      dsimp only at hL
      subst hL
      rw [show plB left ch = placeB left p true from by rw [plB, hF]] at hd ⊢
      obtain ⟨h1, h2⟩ := place_steps hF (hnz left hl) hfit hi hd
      exact ⟨[⟨left, p⟩], by simp, h2, by rw [same]; exact h1, hl⟩
    · by_cases hR : (findL 103 ch codesAll).2 = true
      · rw [scalarS_right left ch hC hL hR] at hq
        simp only [Prod.mk.injEq] at hq
        obtain ⟨rfl, rfl, _⟩ := hq
        obtain ⟨⟨p, i0⟩, hF⟩ : ∃ x, findL 103 ch codesAll = x := ⟨_, rfl⟩
        rw [hF] at hR hd
        rw [hF]
        dsimp only at hR hd
        subst hR
        obtain ⟨h1, h2⟩ := right_steps hF hfit hi hd
        exact ⟨[⟨103, p⟩], by simp, h2, by rw [same]; exact h1, hl⟩
      · by_cases hA : (accentOf ch).2.2 = true
        · rw [scalarS_accent left ch hC hL hR hA] at hq
          simp only [Prod.mk.injEq] at hq
          obtain ⟨rfl, rfl, _⟩ := hq
          obtain ⟨⟨p, l, i0⟩, hF⟩ : ∃ x, accentOf ch = x := ⟨_, rfl⟩
          rw [hF] at hA hd
          rw [hF]
          dsimp only at hA hd
          subst hA
          obtain ⟨toks, h1, h2, h3, h4⟩ := accent_steps hF hl hfit hi hd
          exact ⟨toks, by intro e; rw [e] at h1; exact absurd h1 (by decide), fun r => by rw [h1]; exact h2 r, h3, h4⟩
        · rw [scalarS_else left ch hC hL hR hA] at hq
          obtain ⟨x, hx⟩ : ∃ x, setFind ch setsAll = x := ⟨_, rfl⟩
          rw [hx] at hq
          cases x with
          | none => simp at hq
          | some set =>
            simp only [Prod.mk.injEq] at hq
            obtain ⟨rfl, rfl, _⟩ := hq
            obtain ⟨hm, hf⟩ := setFind_some ch set setsAll hx
            obtain ⟨⟨p, i0⟩, hF⟩ : ∃ x, findL set ch codesAll = x := ⟨_, rfl⟩
            rw [hF] at hf
            dsimp only at hf
            subst hf
            rw [show plB set ch = placeB set p true from by rw [plB, hF], List.append_assoc] at hd
            rw [show plB set ch = placeB set p true from by rw [plB, hF]]
            have s0 := esc_steps hm hfit hi hd
            have hd2 : bs.drop (j + (escOf set).length) = placeB set p true ++ rest := by rw [← List.drop_drop, hd, List.drop_left]
            obtain ⟨h1, h2⟩ := place_steps (s := { s with i := ((j + (escOf set).length : Nat) : Int), g0 := set }) (j := j + (escOf set).length) hF (hnz set hm) ⟨rfl, hfit.g2, hfit.l, hfit.r⟩ rfl hd2
            refine ⟨[⟨set, p⟩], by simp, h2, ?_, hm⟩
            have := s0.trans h1
            dsimp only at this
            rw [List.length_append, ← Nat.add_assoc]
            exact this
end
end Go.Proofs.Ytgcdfchchphpjaa.M
