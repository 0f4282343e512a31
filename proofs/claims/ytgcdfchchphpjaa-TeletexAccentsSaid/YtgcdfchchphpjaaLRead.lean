/- Proved here, in plain Lean: what Read tells; what Put writes is read again as it was; when Put writes. -/
import Derived.Test.YtgcdfchchphpjaaM11
import Derived.Test.YtgcdfchchphpjaaLTok
import Derived.Test.YtgcdfchchphpjaaLKeep
namespace Go.Proofs.Ytgcdfchchphpjaa.M
set_option linter.unusedVariables false
set_option linter.unusedSimpArgs false
open Go.RowKit Go.Proofs.YtgcdfchchphpjaaW.PrintWords Go.Proofs.YtgcdfchchphpjaaW.PrintLast Go.Proofs.YtgcdfchchphpjaaW.PrintMore

theorem Bytes_l0 (a b : List Int) (hl : a.length ≤ 1000000000) (hab : a.length = b.length) : ∀ (d k j : Nat), d < k → j + d = a.length → sobriquetkeep_Bytes.l0 k a b (j : Int) = some (decide (a.drop j = b.drop j))
  | 0, k, j, hk, hj => by
    obtain ⟨k, rfl⟩ : ∃ m, k = m + 1 := ⟨k - 1, by omega⟩
    simp only [sobriquetkeep_Bytes.l0]
    rw [if_neg (by omega), List.drop_eq_nil_of_le (by omega), List.drop_eq_nil_of_le (by omega)]
    rfl
  | d + 1, k, j, hk, hj => by
    obtain ⟨k, rfl⟩ : ∃ m, k = m + 1 := ⟨k - 1, by omega⟩
    have hlt : j < a.length := by omega
    have hlt2 : j < b.length := by omega
    simp only [sobriquetkeep_Bytes.l0]
    rw [if_pos (by omega), if_pos (by omega), if_pos (by omega), rd_at a j hlt, rd_at b j hlt2, wrap_succ j (by omega), Bytes_l0 a b hl hab d k (j + 1) (by omega) (by omega), List.drop_eq_getElem_cons hlt, List.drop_eq_getElem_cons hlt2]
    generalize a[j] = u
    generalize b[j] = v
    generalize a.drop (j + 1) = s
    generalize b.drop (j + 1) = t
    by_cases h : u = v
    · rw [if_pos h]
      simp [h]
    · rw [if_neg h]
      simp [h]
theorem Bytes_f (a b : List Int) (k : Nat) (hl : a.length ≤ 1000000000) (hk : a.length < k) : sobriquetkeep_Bytes.f k a b = some (decide (a = b)) := by
  unfold sobriquetkeep_Bytes.f
  by_cases h : (a.length : Int) = (b.length : Int)
  · rw [if_pos h]
    have := Bytes_l0 a b hl (by omega) a.length k 0 hk (by omega)
    simpa using this
  · rw [if_neg h]
    have : a ≠ b := fun e => h (by rw [e])
    simp [this]

/-! ### Read -/
def readT : Nat → List Int → Int → List S74 → List Int × Int × Int
  | 0, _, _, _ => ([], 0, 99)
  | _ + 1, xs, _, [] => (xs, 0, 0)
  | n + 1, xs, i, t :: l => if (oneT (t :: l)).2.2 = 0 then readT n (xs ++ [(oneT (t :: l)).1]) (i + (oneT (t :: l)).2.1) ((t :: l).drop (oneT (t :: l)).2.1.toNat) else ([], i, (oneT (t :: l)).2.2)
theorem oneT_some (t : S74) (l : List S74) (h : (oneT (t :: l)).2.2 = 0) : (oneT (t :: l)).2.1 = 1 ∨ ((oneT (t :: l)).2.1 = 2 ∧ l ≠ []) := by
  rw [oneT] at h ⊢
  split
  · exact .inl rfl
  · rename_i h0
    rw [if_neg h0] at h
    split
    · exact .inl rfl
    · rename_i h1
      rw [if_neg h1] at h
      split
      · rename_i h2
        rw [if_pos h2] at h
        cases l with
        | nil => exact absurd (show (2 : Int) = 0 from h) (by decide)
        | cons u r =>
          rw [markT] at h ⊢
          split
          · exact .inr ⟨rfl, by simp⟩
          · rename_i h3
            rw [if_neg h3] at h
            exact absurd h (by decide)
      · rename_i h2
        rw [if_neg h2] at h
        exact absurd h (by decide)
theorem Read_l0 (toks : List S74) (hl : toks.length ≤ 1000000) : ∀ (n k j : Nat) (xs : List Int), n + 3003 ≤ k → j ≤ toks.length → toks.length + 1 ≤ j + n → xs.length ≤ j → teletex_Read.l0 k xs toks (j : Int) = some (readT n xs (j : Int) (toks.drop j))
  | 0, k, j, xs, hk, hj, hn, hx => by omega
  | n + 1, k, j, xs, hk, hj, hn, hx => by
    obtain ⟨k, rfl⟩ : ∃ m, k = m + 1 := ⟨k - 1, by omega⟩
    simp only [teletex_Read.l0]
    by_cases hlt : j < toks.length
    · obtain ⟨t, l, hd⟩ : ∃ t l, toks.drop j = t :: l := ⟨_, _, List.drop_eq_getElem_cons hlt⟩
      rw [if_pos (by omega), if_pos (by omega), if_pos (by omega), Int.toNat_natCast, hd, One_f t l k (by omega), Option.bind_some, readT]
      by_cases c : (oneT (t :: l)).2.2 = 0
      · have hs := oneT_some t l c
        have hlen : l.length + 1 + j = toks.length := by
          have := congrArg List.length hd
          simp only [List.length_drop, List.length_cons] at this
          omega
        rw [if_pos c, if_pos c, if_pos (by omega)]
        obtain ⟨m, hm, hm1, hm2⟩ : ∃ m : Nat, (oneT (t :: l)).2.1 = (m : Int) ∧ 1 ≤ m ∧ m ≤ l.length + 1 := by
          rcases hs with hs | ⟨hs, hne⟩
          · exact ⟨1, hs, by omega, by omega⟩
          · refine ⟨2, hs, by omega, ?_⟩
            cases l with
            | nil => exact absurd rfl hne
            | cons u r => simp only [List.length_cons]; omega
        rw [hm, wrap_id _ (by omega) (by omega), show ((j : Int) + (m : Int)) = ((j + m : Nat) : Int) by omega, Read_l0 toks hl n k (j + m) _ (by omega) (by omega) (by omega) (by simp only [List.length_append, List.length_cons, List.length_nil]; omega), ← List.drop_drop, hd, Int.toNat_natCast]
      · rw [if_neg c, if_neg c]
    · rw [if_neg (by omega), List.drop_eq_nil_of_le (by omega), readT]
def readL (toks : List S74) : List Int × Int × Int := readT (toks.length + 1) [] 0 toks
theorem Read_f (bs : List Int) (toks : List S74) (a e : Int) (ht : shift_Tokens.f bs = some (toks, a, e)) (hl : toks.length ≤ 100000) (k : Nat) (hk : 110000 ≤ k) :
    teletex_Read.f k bs = some (if e = 0 then readL toks else ([], a, e)) := by
  unfold teletex_Read.f
  rw [ht, Option.bind_some]
  by_cases c : e = 0
  · rw [if_pos c, if_pos c]
    exact Read_l0 toks (by omega) (toks.length + 1) k 0 [] (by omega) (by omega) (by omega) (by simp)
  · rw [if_neg c, if_neg c]

/-! ### tokens that mean scalars -/
inductive Means : List S74 → List Int → Prop
  | nil : Means [] []
  | cons {toks rest : List S74} {c : Int} {cs : List Int} (h0 : toks ≠ []) (h : ∀ r, oneT (toks ++ r) = (c, (toks.length : Int), 0)) (ht : Means rest cs) : Means (toks ++ rest) (c :: cs)
theorem Means.read {toks : List S74} {cs : List Int} (h : Means toks cs) : ∀ (n : Nat) (xs : List Int) (i : Int), toks.length < n → readT n xs i toks = (xs ++ cs, 0, 0) := by
  induction h with
  | nil =>
    intro n xs i hn
    obtain ⟨n, rfl⟩ : ∃ m, n = m + 1 := ⟨n - 1, by omega⟩
    rw [readT, List.append_nil]
  | @cons toks rest c cs h0 h ht ih =>
    intro n xs i hn
    obtain ⟨n, rfl⟩ : ∃ m, n = m + 1 := ⟨n - 1, by omega⟩
    cases toks with
    | nil => exact absurd rfl h0
    | cons t l =>
      have h1 := h rest
      simp only [List.cons_append, List.length_append, List.length_cons] at h1 hn ⊢
      rw [readT, h1, if_pos rfl, Int.toNat_natCast, ← List.cons_append, show l.length + 1 = (t :: l).length from rfl, List.drop_left, ih n _ _ (by omega), List.append_assoc]
      rfl

/-! ### Put, then Read -/
theorem tokS_len (bs : List Int) : ∀ (n : Nat) (s : Rd) (toks : List S74) (a e : Int), RdOk bs s → tokS bs n s = some (toks, a, e) → toks.length ≤ bs.length
  | 0, s, toks, a, e, hk, h => by simp [tokS] at h
  | n + 1, s, toks, a, e, hk, h => by
    rw [tokS] at h
    split at h
    · rename_i hlt
      split at h
      · exact tokS_len bs n _ toks a e (oneS_ok hk hlt).1 h
      · have := Option.some.inj h
        simp only [Prod.mk.injEq] at this
        rw [← this.1]
        simp
    · have := Option.some.inj h
      simp only [Prod.mk.injEq] at this
      rw [← this.1]
      have h1 := hk.2.2.1
      have h2 := hk.2.1
      omega
theorem putT_ends : ∀ (s : List Int) (left : Int) (xs : List Int) (i : Nat), (putT left xs i s).2.2 = 0 → ∃ suf, (putT left xs i s).1 = xs ++ suf
  | [], left, xs, i, h => ⟨[], by rw [putT, List.append_nil]⟩
  | c :: t, left, xs, i, h => by
    rw [putT] at h ⊢
    by_cases e : (scalarS left c).2.2 = true
    · rw [if_pos e] at h ⊢
      obtain ⟨suf, hs⟩ := putT_ends t _ _ _ h
      exact ⟨(scalarS left c).2.1 ++ suf, by rw [hs, List.append_assoc]⟩
    · rw [if_neg e] at h
      exact absurd (show (14 : Int) = 0 from h) (by decide)
theorem put_steps (b : List Int) : ∀ (cs : List Int) (left : Int) (xs : List Int) (i : Nat) (s : Rd), (putT left xs i cs).2.2 = 0 → (putT left xs i cs).1 = b → left ∈ setsAll → Fit s left → s.i = (xs.length : Int) →
    ∃ toks s', Steps b s s' ∧ s'.i = (b.length : Int) ∧ s'.out = s.out ++ toks ∧ Means toks cs
  | [], left, xs, i, s, h, hb, hl, hfit, hi => by
    rw [putT] at hb
    dsimp only at hb
    subst hb
    exact ⟨[], s, Steps.refl _ _, hi, by rw [List.append_nil], Means.nil⟩
  | c :: t, left, xs, i, s, h, hb, hl, hfit, hi => by
    rw [putT] at h hb
    by_cases e : (scalarS left c).2.2 = true
    · rw [if_pos e] at h hb
      obtain ⟨⟨l2, b2, ok⟩, hq⟩ : ∃ x, scalarS left c = x := ⟨_, rfl⟩
      rw [hq] at e h hb
      dsimp only at e h hb
      subst e
      obtain ⟨suf, hs⟩ := putT_ends t l2 (xs ++ b2) (i + 1) h
      have hd : b.drop xs.length = b2 ++ suf := by rw [← hb, hs, List.append_assoc, List.drop_left]
      obtain ⟨toks, h0, h1, h2, h3⟩ := scalar_steps hq hl hfit hi hd
      obtain ⟨toks2, s2, g1, g2, g3, g4⟩ := put_steps b t l2 (xs ++ b2) (i + 1) { s with i := ((xs.length + b2.length : Nat) : Int), g0 := l2, out := s.out ++ toks } h hb h3 ⟨rfl, hfit.g2, hfit.l, hfit.r⟩ (by rw [List.length_append])
      exact ⟨toks ++ toks2, s2, h2.trans g1, g2, by rw [g3]; exact List.append_assoc _ _ _, Means.cons h0 h1 g4⟩
    · rw [if_neg e] at h
      exact absurd (show (14 : Int) = 0 from h) (by decide)
theorem scalarS_bytes (left ch : Int) : ∀ x ∈ (scalarS left ch).2.1, 0 ≤ x ∧ x ≤ 255 := by
  have u8 : ∀ y : Int, 0 ≤ IntKind.u8.wrap y ∧ IntKind.u8.wrap y ≤ 255 := fun y => by rw [u8_wrap]; omega
  have hp : ∀ l c, ∀ x ∈ plB l c, 0 ≤ x ∧ x ≤ 255 := by
    intro l c x hx
    unfold plB placeB at hx
    split at hx
    · split at hx
      · simp only [List.mem_cons, List.not_mem_nil, or_false] at hx
        rcases hx with rfl | rfl <;> exact u8 _
      · simp only [List.mem_cons, List.not_mem_nil, or_false] at hx
        subst hx
        exact u8 _
    · exact absurd hx (by simp)
  have he : ∀ set, ∀ x ∈ escOf set, 0 ≤ x ∧ x ≤ 255 := by
    intro set x hx
    unfold escOf at hx
    split at hx <;> (simp only [List.mem_cons, List.not_mem_nil, or_false] at hx; omega)
  by_cases hC : ch ∈ ctlAll
  · rw [scalarS_ctl left ch hC]
    intro x hx
    simp only [List.mem_cons, List.not_mem_nil, or_false] at hx
    subst hx
    exact u8 _
  · by_cases hL : (findL left ch codesAll).2 = true
    · rw [scalarS_left left ch hC hL]
      exact hp _ _
    · by_cases hR : (findL 103 ch codesAll).2 = true
      · rw [scalarS_right left ch hC hL hR]
        intro x hx
        simp only [List.mem_cons, List.not_mem_nil, or_false] at hx
        subst hx
        exact u8 _
      · by_cases hA : (accentOf ch).2.2 = true
        · rw [scalarS_accent left ch hC hL hR hA]
          have hW := accent_worth ch
          unfold Worth at hW
          rw [if_pos hA] at hW
          obtain ⟨n, lone, _, hd⟩ := hW
          intro x hx
          unfold accB2 at hx
          rw [List.mem_append] at hx
          rcases hx with hx | hx
          · split at hx
            · exact absurd hx (by simp)
            · exact he 102 x hx
          · simp only [List.mem_cons, List.not_mem_nil, or_false] at hx
            rcases hx with rfl | rfl
            · exact u8 _
            · omega
        · rw [scalarS_else left ch hC hL hR hA]
          split
          · intro x hx
            dsimp only at hx
            rw [List.mem_append] at hx
            exact hx.elim (he _ x) (hp _ _ x)
          · intro x hx
            exact absurd hx (by simp)
theorem putT_bytes : ∀ (s : List Int) (left : Int) (xs : List Int) (i : Nat), (∀ x ∈ xs, 0 ≤ x ∧ x ≤ 255) → (∀ x ∈ (putT left xs i s).1, 0 ≤ x ∧ x ≤ 255) ∧ (putT left xs i s).1.length ≤ xs.length + 6 * s.length
  | [], left, xs, i, h => by rw [putT]; exact ⟨h, by simp⟩
  | c :: t, left, xs, i, h => by
    rw [putT]
    split
    · obtain ⟨h1, h2⟩ := putT_bytes t (scalarS left c).1 (xs ++ (scalarS left c).2.1) (i + 1) (fun x hx => by rw [List.mem_append] at hx; exact hx.elim (h x) (scalarS_bytes left c x))
      have := scalarS_len left c
      simp only [List.length_append, List.length_cons] at h2 ⊢
      exact ⟨h1, by omega⟩
    · exact ⟨fun x hx => absurd hx (by simp), by simp⟩
theorem Means.len {toks : List S74} {cs : List Int} (h : Means toks cs) : cs.length ≤ toks.length := by
  induction h with
  | nil => exact Nat.le_refl _
  | @cons toks rest c cs h0 h ht ih =>
    cases toks with
    | nil => exact absurd rfl h0
    | cons t l => simp only [List.length_append, List.length_cons]; omega
/-- What is put is read again as it was. -/
theorem put_read (cs b : List Int) (at_ : Int) (hl : cs.length ≤ 1000) (h : teletex_Put.f cs = some (b, at_, 0)) (k : Nat) (hk : 110000 ≤ k) : teletex_Read.f k b = some (cs, 0, 0) := by
  rw [teletex_Put.f, if_pos hl] at h
  have h := Option.some.inj h
  have h2 : (putT 102 [] 0 cs).2.2 = 0 := by rw [h]
  have h1 : (putT 102 [] 0 cs).1 = b := by rw [h]
  obtain ⟨hb, hlen⟩ := putT_bytes cs 102 [] 0 (by simp)
  rw [h1] at hb hlen
  simp only [List.length_nil] at hlen
  obtain ⟨toks, s', g1, g2, g3, g4⟩ := put_steps b cs 102 [] 0 rd0 h2 h1 (by decide) ⟨rfl, rfl, rfl, rfl⟩ rfl
  have ht : shift_Tokens.f b = some (toks, 0, 0) := by
    rw [shift_Tokens.f, if_pos ⟨List.all_eq_true.2 (fun x hx => decide_eq_true (hb x hx)), by omega⟩, g1.done g2, g3]
    rfl
  have hok : toks.length ≤ 100000 := by
    obtain ⟨m, hm, e⟩ := g1
    have hk2 : RdOk b rd0 := by show 0 ≤ (0 : Int) ∧ (0 : Int) ≤ _ ∧ (0 : Int) ≤ 0 ∧ (0 : Int) ≤ 0 ∧ (0 : Int) ≤ 3 ∧ (0 : Int) ≤ 2 ∧ (2 : Int) ≤ 3; omega
    have := tokS_len b (b.length + 1) rd0 toks 0 0 hk2 (by rw [shift_Tokens.f, if_pos ⟨List.all_eq_true.2 (fun x hx => decide_eq_true (hb x hx)), by omega⟩] at ht; exact ht)
    omega
  rw [Read_f b toks 0 0 ht hok k hk, if_pos rfl, readL, g4.read _ _ _ (by omega), List.nil_append]

/-! ### when Put writes -/
/-- Whether a scalar has a form does not hang on the left set. -/
def okS (ch : Int) : Bool := decide (ch ∈ ctlAll) || (findL 103 ch codesAll).2 || (accentOf ch).2.2 || (setFind ch setsAll).isSome
theorem setFind_of (ch set : Int) : ∀ (l : List Int), set ∈ l → (findL set ch codesAll).2 = true → (setFind ch l).isSome = true
  | [], h, _ => by simp at h
  | x :: t, h, hf => by
    unfold setFind
    by_cases c : (findL x ch codesAll).2 = true
    · rw [if_pos c]; rfl
    · rw [if_neg c]
      rcases List.mem_cons.1 h with rfl | h
      · exact absurd hf c
      · exact setFind_of ch set t h hf
theorem scalarS_ok (left ch : Int) (hl : left ∈ setsAll) : (scalarS left ch).2.2 = okS ch := by
  unfold okS
  by_cases hC : ch ∈ ctlAll
  · rw [scalarS_ctl left ch hC, decide_eq_true hC]; rfl
  · rw [decide_eq_false hC]
    by_cases hL : (findL left ch codesAll).2 = true
    · rw [scalarS_left left ch hC hL, setFind_of ch left setsAll hl hL]; simp
    · by_cases hR : (findL 103 ch codesAll).2 = true
      · rw [scalarS_right left ch hC hL hR, hR]; simp
      · by_cases hA : (accentOf ch).2.2 = true
        · rw [scalarS_accent left ch hC hL hR hA, hA]; simp
        · rw [scalarS_else left ch hC hL hR hA]
          rw [Bool.not_eq_true] at hR hA
          rw [hR, hA]
          cases setFind ch setsAll <;> rfl
theorem scalarS_sets (left ch : Int) (hl : left ∈ setsAll) : (scalarS left ch).1 ∈ setsAll := by
  by_cases hC : ch ∈ ctlAll
  · rw [scalarS_ctl left ch hC]; exact hl
  · by_cases hL : (findL left ch codesAll).2 = true
    · rw [scalarS_left left ch hC hL]; exact hl
    · by_cases hR : (findL 103 ch codesAll).2 = true
      · rw [scalarS_right left ch hC hL hR]; exact hl
      · by_cases hA : (accentOf ch).2.2 = true
        · rw [scalarS_accent left ch hC hL hR hA]
          show accLeft left (accentOf ch).2.1 ∈ setsAll
          unfold accLeft
          split
          · exact hl
          · decide
        · rw [scalarS_else left ch hC hL hR hA]
          split
          · rename_i s h; exact (setFind_some ch s setsAll h).1
          · exact hl
/-- Where Put falls. -/
theorem putT_falls : ∀ (s : List Int) (left : Int) (xs : List Int) (i : Nat), left ∈ setsAll → (putT left xs i s).2.2 ≠ 0 → ∃ n, n < s.length ∧ putT left xs i s = ([], ((i + n : Nat) : Int), 14) ∧ okS (rd s (n : Int)) = false ∧ ∀ m, m < n → okS (rd s (m : Int)) = true
  | [], left, xs, i, hl, h => by rw [putT] at h; exact absurd rfl h
  | c :: t, left, xs, i, hl, h => by
    rw [putT] at h ⊢
    have hok := scalarS_ok left c hl
    by_cases e : (scalarS left c).2.2 = true
    · rw [if_pos e] at h ⊢
      obtain ⟨n, hn, h1, h2, h3⟩ := putT_falls t _ _ (i + 1) (scalarS_sets left c hl) h
      have hr : ∀ m : Nat, rd (c :: t) ((m + 1 : Nat) : Int) = rd t (m : Int) := fun m => by simp [rd]
      refine ⟨n + 1, by simp only [List.length_cons]; omega, by rw [h1, show i + (n + 1) = i + 1 + n by omega], by rw [hr]; exact h2, fun m hm => ?_⟩
      cases m with
      | zero => show okS c = true; rw [← hok]; exact e
      | succ m => rw [hr]; exact h3 m (by omega)
    · rw [if_neg e]
      refine ⟨0, by simp, rfl, ?_, fun m hm => by omega⟩
      show okS c = false
      rw [← hok]
      simpa using e
theorem putT_all : ∀ (s : List Int) (left : Int) (xs : List Int) (i : Nat), left ∈ setsAll → (putT left xs i s).2.2 = 0 → ∀ x ∈ s, okS x = true
  | [], _, _, _, _, _, x, hx => by simp at hx
  | c :: t, left, xs, i, hl, h, x, hx => by
    rw [putT] at h
    by_cases e : (scalarS left c).2.2 = true
    · rw [if_pos e] at h
      rcases List.mem_cons.1 hx with rfl | hx
      · rw [← scalarS_ok left x hl]; exact e
      · exact putT_all t _ _ _ (scalarS_sets left c hl) h x hx
    · rw [if_neg e] at h
      exact absurd (show (14 : Int) = 0 from h) (by decide)
/-- Put succeeds where each scalar has a form. -/
theorem putT_fits : ∀ (s : List Int) (left : Int) (xs : List Int) (i : Nat), left ∈ setsAll → (∀ x ∈ s, okS x = true) → (putT left xs i s).2.2 = 0 ∧ (putT left xs i s).2.1 = 0
  | [], left, xs, i, hl, h => by rw [putT]; exact ⟨rfl, rfl⟩
  | c :: t, left, xs, i, hl, h => by
    rw [putT, if_pos (by rw [scalarS_ok left c hl]; exact h c List.mem_cons_self)]
    exact putT_fits t _ _ _ (scalarS_sets left c hl) (fun x hx => h x (List.mem_cons_of_mem _ hx))

end Go.Proofs.Ytgcdfchchphpjaa.M
