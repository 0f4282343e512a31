/- Proved here: for every b of 300 bytes at most the statement TeletexNormal returns true; for longer ones, too. No condition. -/
import Derived.Test.YtgcdfchchphpjaaM13
import Derived.Test.YtgcdfchchphpjaaLRead
import Derived.Test.YtgcdfchchphpjaaHWakes18
namespace Go.Proofs.Ytgcdfchchphpjaa.Pure
set_option linter.unusedVariables false
set_option linter.unusedSimpArgs false
open Go.RowKit Go.Proofs.Ytgcdfchchphpjaa.M Go.Proofs.YtgcdfchchphpjaaW.PrintWords Go.Proofs.YtgcdfchchphpjaaW.PrintLast

/-! ### the tokens of any bytes -/
def TokOk (t : S74) : Prop := (t.f0 = 0 ∧ t.f1 ∈ ctl2) ∨ (t.f0 ≠ 0 ∧ t.f0 ∈ setsL)
def SetOk (g : Int) : Prop := g = 0 ∨ g ∈ setsL
def GOk (s : Rd) : Prop := SetOk s.g0 ∧ SetOk s.g1 ∧ SetOk s.g2 ∧ SetOk s.g3 ∧ ∀ t ∈ s.out, TokOk t
theorem byL_mem (f : Int) (w : Bool) : ∀ (l : List Int), (byL f w l).2 = true → (byL f w l).1 ∈ l
  | [], h => by simp [byL] at h
  | x :: t, h => by
    unfold byL at h ⊢
    by_cases c : finalOf x = f ∧ ((x == 87) == w) = true
    · rw [if_pos c]; exact List.mem_cons_self
    · rw [if_neg c] at h ⊢; exact List.mem_cons_of_mem _ (byL_mem f w t h)
theorem GOk.next {bs : List Int} {s : Rd} (h : GOk s) : GOk (nextS bs s).2.2 := by
  unfold nextS
  split
  · exact h
  · exact h
theorem GOk.at_ {s : Rd} (h : GOk s) (gi : Int) : SetOk (gAt s gi) := by
  unfold gAt
  split
  · exact h.1
  · split
    · exact h.2.1
    · split
      · exact h.2.2.1
      · exact h.2.2.2.1
theorem GOk.push {s : Rd} (h : GOk s) (t : S74) (ht : TokOk t) : GOk { s with out := s.out ++ [t] } :=
  ⟨h.1, h.2.1, h.2.2.1, h.2.2.2.1, fun x hx => by
    rcases List.mem_append.1 hx with hx | hx
    · exact h.2.2.2.2 x hx
    · rw [List.mem_singleton.1 hx]; exact ht⟩
theorem GOk.place {bs : List Int} {s : Rd} (gi c : Int) (h : GOk s) : GOk (placeS bs s gi c).2 := by
  unfold placeS
  split
  · split
    · exact h
    · rename_i hz
      split
      · split
        · split
          · exact h.next.push _ (.inr ⟨show (87 : Int) ≠ 0 by decide, show (87 : Int) ∈ setsL by decide⟩)
          · exact h.next
        · exact h.next
      · exact h.push _ (.inr ⟨hz, (h.at_ gi).resolve_left hz⟩)
  · exact h
theorem GOk.single {bs : List Int} {s : Rd} (gi : Int) (h : GOk s) : GOk (singleS bs s gi).2 := by
  unfold singleS
  split
  · exact h.next.place _ _
  · exact h.next
theorem GOk.gset {s : Rd} (gi v : Int) (h : GOk s) (hv : v ∈ setsL) : GOk (gSet s gi v) := by
  obtain ⟨h1, h2, h3, h4, h5⟩ := h
  unfold gSet
  split
  · exact ⟨.inr hv, h2, h3, h4, h5⟩
  · split
    · exact ⟨h1, .inr hv, h3, h4, h5⟩
    · split
      · exact ⟨h1, h2, .inr hv, h4, h5⟩
      · exact ⟨h1, h2, h3, .inr hv, h5⟩
theorem GOk.desig {bs : List Int} {s : Rd} (gi : Int) (wide : Bool) (h : GOk s) : GOk (desigS bs s gi wide).2 := by
  unfold desigS
  split
  · split
    · rename_i hb
      exact h.next.gset _ _ (byL_mem _ _ _ hb)
    · exact h.next
  · exact h.next
theorem GOk.esc {bs : List Int} {s : Rd} (h : GOk s) : GOk (escS bs s).2 := by
  have h1 := h.next (bs := bs)
  unfold escS
  dsimp only
  split
  · exact h1
  · split
    · exact h1.next
    · split
      · exact h1.next
      · split
        · exact h1
        · split
          · exact h1
          · split
            · split
              · exact h1.next
              · split
                · exact h1.next
                · exact h1.next.desig _ _
            · split
              · exact h1
              · exact h1.desig _ _
theorem GOk.one {bs : List Int} {s : Rd} (h : GOk s) : GOk (oneS bs s).2 := by
  have h1 := h.next (bs := bs)
  unfold oneS
  dsimp only
  split
  · rename_i hc
    exact h1.push _ (.inl ⟨rfl, hc⟩)
  · split
    · exact h1
    · split
      · exact h1.single _
      · split
        · exact h1.single _
        · split
          · exact h1.esc
          · split
            · exact h1.place _ _
            · exact h1.place _ _
theorem tokS_tells (bs : List Int) : ∀ (n : Nat) (s : Rd), RdOk bs s → GOk s → (bs.length : Int) - s.i < n → ∃ toks a e, tokS bs n s = some (toks, a, e) ∧ (∀ t ∈ toks, TokOk t) ∧ toks.length ≤ bs.length
  | 0, s, hk, hg, hn => by have := hk.2.1; omega
  | n + 1, s, hk, hg, hn => by
    rw [tokS]
    by_cases hlt : s.i < (bs.length : Int)
    · rw [if_pos hlt]
      obtain ⟨h1, h2⟩ := oneS_ok hk hlt
      by_cases he : (oneS bs s).1 = 0
      · rw [if_pos he]
        exact tokS_tells bs n _ h1 hg.one (by omega)
      · rw [if_neg he]
        exact ⟨_, _, _, rfl, fun t ht => absurd ht (by simp), by simp⟩
    · rw [if_neg hlt]
      refine ⟨_, _, _, rfl, hg.2.2.2.2, ?_⟩
      have h1 := hk.2.2.1
      have h2 := hk.2.1
      omega
theorem Tokens_tells (bs : List Int) (hb : ∀ x ∈ bs, 0 ≤ x ∧ x ≤ 255) (hl : bs.length ≤ 100000) : ∃ toks a e, shift_Tokens.f bs = some (toks, a, e) ∧ (∀ t ∈ toks, TokOk t) ∧ toks.length ≤ bs.length := by
  rw [shift_Tokens.f, if_pos ⟨List.all_eq_true.2 (fun x hx => decide_eq_true (hb x hx)), hl⟩]
  refine tokS_tells bs _ rd0 ?_ ⟨.inr (by decide), .inl rfl, .inr (by decide), .inl rfl, fun t ht => absurd ht (by simp [rd0])⟩ (by show (bs.length : Int) - 0 < _; omega)
  show 0 ≤ (0 : Int) ∧ (0 : Int) ≤ _ ∧ (0 : Int) ≤ 0 ∧ (0 : Int) ≤ 0 ∧ (0 : Int) ≤ 3 ∧ (0 : Int) ≤ 2 ∧ (2 : Int) ≤ 3
  omega

/-! ### what is read has a form -/
theorem getL_mem (a p c : Int) : ∀ (l : List S38), getL a p l = (c, true) → ∃ x ∈ l, x.f0 = a ∧ x.f1 = p ∧ x.f2 = c
  | [], h => by simp [getL] at h
  | x :: t, h => by
    unfold getL at h
    by_cases e : x.f0 = a ∧ x.f1 = p
    · rw [if_pos e] at h
      exact ⟨x, List.mem_cons_self, e.1, e.2, congrArg Prod.fst h⟩
    · rw [if_neg e] at h
      obtain ⟨y, hy, h1⟩ := getL_mem a p c t h
      exact ⟨y, List.mem_cons_of_mem _ hy, h1⟩
theorem findL_of (a c : Int) : ∀ (l : List S38) (x : S38), x ∈ l → x.f0 = a → x.f2 = c → (findL a c l).2 = true
  | [], x, h, _, _ => by simp at h
  | y :: t, x, h, h1, h2 => by
    unfold findL
    by_cases e : y.f0 = a ∧ y.f2 = c
    · rw [if_pos e]
    · rw [if_neg e]
      rcases List.mem_cons.1 h with rfl | h
      · exact absurd ⟨h1, h2⟩ e
      · exact findL_of a c t x h h1 h2
theorem get_ok (a p : Int) (ha : a ∈ setsL) (h : (getL a p codesAll).2 = true) : okS (getL a p codesAll).1 = true := by
  obtain ⟨⟨c, i⟩, hg⟩ : ∃ x, getL a p codesAll = x := ⟨_, rfl⟩
  rw [hg] at h ⊢
  dsimp only at h ⊢
  subst h
  obtain ⟨x, hx, h1, h2, h3⟩ := getL_mem a p c codesAll hg
  have hf := findL_of a c codesAll x hx h1 h3
  unfold okS
  by_cases c103 : a = 103
  · subst c103
    rw [hf]
    simp
  · have hs : a ∈ setsAll := by
      simp only [setsL, setsAll, List.mem_cons, List.not_mem_nil, or_false] at ha ⊢
      omega
    rw [setFind_of c a setsAll hs hf]
    simp
theorem pairIn_tells18 (a b : Int) : ∀ (l : List S48) (n : Int) (y : Bool), pairIn a b l n y = (n, y) ∨ ∃ x ∈ l, okPair a b x = true ∧ pairIn a b l n y = (x.f0, true)
  | [], n, y => .inl rfl
  | x :: t, n, y => by
    unfold pairIn
    by_cases h : okPair a b x = true
    · rw [if_pos h]
      rcases pairIn_tells18 a b t x.f0 true with e | ⟨z, hz, hok, e⟩
      · exact .inr ⟨x, List.mem_cons_self, h, e⟩
      · exact .inr ⟨z, List.mem_cons_of_mem _ hz, hok, e⟩
    · rw [if_neg h]
      rcases pairIn_tells18 a b t n y with e | ⟨z, hz, hok, e⟩
      · exact .inl e
      · exact .inr ⟨z, List.mem_cons_of_mem _ hz, hok, e⟩
theorem canon_look : (canonT.all fun x => decide (look48 canonT x.f0 = took x.f1 x.f2)) = true := by decide +kernel
theorem pair_look (l m c : Int) (h : pairOf l m = (c, true)) : look48 canonT c = [l, m] := by
  unfold pairOf at h
  rcases pairIn_tells18 l m canonT 0 false with e | ⟨x, hx, hok, e⟩
  · rw [e] at h
    simp only [Prod.mk.injEq, Bool.false_eq_true, and_false] at h
  · rw [e] at h
    simp only [Prod.mk.injEq, and_true] at h
    have hf := of_decide_eq_true (List.all_eq_true.1 canon_look x hx)
    unfold okPair at hok
    simp only [Bool.and_eq_true, decide_eq_true_eq, Bool.not_eq_true', decide_eq_false_iff_not] at hok
    obtain ⟨⟨⟨⟨⟨k1, k2⟩, k3⟩, k4⟩, k5⟩, k6⟩ := hok
    rw [← h, hf, k1, k2]
    exact if_neg k3
theorem accB_ok (c l m : Int) (ht : takenOf l m = (c, true)) : ∀ (L : List S48) (x : S48), x ∈ L → x.f1 = m → (accB c l m L).2.2 = true
  | [], x, h, _ => by simp at h
  | y :: t, x, h, h1 => by
    unfold accB
    by_cases e : (takenOf l y.f1).2 = true ∧ (takenOf l y.f1).1 = c ∧ y.f1 = m
    · rw [if_pos e]
    · rw [if_neg e]
      rcases List.mem_cons.1 h with rfl | h
      · exact absurd ⟨by rw [h1, ht], by rw [h1, ht], h1⟩ e
      · exact accB_ok c l m ht t x h h1
theorem accA_ok (c l m : Int) (h : (accB c l m api_Accents.tbl).2.2 = true) : ∀ (L : List S48), (accA c [l, m] L).2.2 = true
  | [] => by
    unfold accA
    rw [if_pos (show [l, m].length = 2 from rfl)]
    exact h
  | x :: t => by
    unfold accA
    by_cases e : x.f2 = c
    · rw [if_pos e]
    · rw [if_neg e]
      exact accA_ok c l m h t
theorem taken_ok (l m : Int) (x : S48) (hx : x ∈ api_Accents.tbl) (hm : x.f1 = m) (h : (takenOf l m).2 = true) : okS (takenOf l m).1 = true := by
  obtain ⟨h1, h2⟩ := takenOf_tells l m _ h rfl
  have ht : takenOf l m = ((takenOf l m).1, true) := Prod.ext rfl h
  generalize (takenOf l m).1 = c at *
  have ha : (accentOf c).2.2 = true := by
    unfold accentOf
    rw [pair_look l m c h1]
    exact accA_ok c l m (accB_ok c l m ht _ x hx hm) _
  unfold okS
  rw [ha]
  simp
theorem ctl_ok (c : Int) (h : c ∈ ctl2) : okS c = true := by
  have : c ∈ ctlAll := by
    simp only [ctlAll, ctl2, List.mem_cons, List.not_mem_nil, or_false] at h ⊢
    omega
  unfold okS
  rw [decide_eq_true this]
  rfl
theorem oneT_ok (t : S74) (l : List S74) (ht : TokOk t) (hl : ∀ u ∈ l, TokOk u) (h : (oneT (t :: l)).2.2 = 0) : okS (oneT (t :: l)).1 = true := by
  rw [oneT] at h ⊢
  by_cases c0 : t.f0 = 0
  · rw [if_pos c0]
    rcases ht with ht | ht
    · exact ctl_ok _ ht.2
    · exact absurd c0 ht.1
  · rw [if_neg c0] at h ⊢
    have hs : t.f0 ∈ setsL := (ht.resolve_left (fun e => c0 e.1)).2
    by_cases c1 : (getL t.f0 t.f1 codesAll).2 = true
    · rw [if_pos c1]
      exact get_ok _ _ hs c1
    · rw [if_neg c1] at h ⊢
      by_cases c2 : t.f0 = 103 ∧ (markL t.f1 api_Accents.tbl).2.2 = true
      · rw [if_pos c2] at h ⊢
        obtain ⟨⟨m, a, i⟩, hm⟩ : ∃ x, markL t.f1 api_Accents.tbl = x := ⟨_, rfl⟩
        rw [hm] at h c2 ⊢
        dsimp only at h c2 ⊢
        obtain ⟨_, rfl⟩ := c2
        cases l with
        | nil => exact absurd (show (2 : Int) = 0 from h) (by decide)
        | cons u r =>
          rw [markT] at h ⊢
          by_cases c3 : (underT m a u).2 = true
          · rw [if_pos c3]
            dsimp only
            unfold underT at c3 ⊢
            by_cases d0 : u.f0 = 0
            · rw [if_pos d0]
              have := (mark_tells _ _ _ hm).2.2
              unfold okS
              rw [this]
              simp
            · rw [if_neg d0] at c3 ⊢
              by_cases d1 : u.f0 = 102 ∨ u.f0 = 6
              · rw [if_pos d1] at c3 ⊢
                by_cases d2 : (getL u.f0 u.f1 codesAll).2 = true
                · rw [if_pos d2] at c3 ⊢
                  obtain ⟨x, hx, _, h2, _⟩ := markL_mem _ _ _ _ hm
                  exact taken_ok _ _ x hx h2 c3
                · rw [if_neg d2] at c3
                  cases c3
              · rw [if_neg d1] at c3
                cases c3
          · rw [if_neg c3] at h
            exact absurd (show (13 : Int) = 0 from h) (by decide)
      · rw [if_neg c2] at h
        exact absurd (show (13 : Int) = 0 from h) (by decide)
theorem readT_ok : ∀ (n : Nat) (xs : List Int) (i : Int) (toks : List S74), (∀ t ∈ toks, TokOk t) → (∀ x ∈ xs, okS x = true) → (∀ x ∈ (readT n xs i toks).1, okS x = true) ∧ (readT n xs i toks).1.length ≤ xs.length + toks.length ∧ ((readT n xs i toks).2.2 ≠ 0 → (readT n xs i toks).1 = [])
  | 0, xs, i, toks, ht, hx => by rw [readT]; exact ⟨fun x h => absurd h (by simp), by simp, fun _ => rfl⟩
  | n + 1, xs, i, [], ht, hx => by rw [readT]; exact ⟨hx, by simp, fun h => absurd rfl h⟩
  | n + 1, xs, i, t :: l, ht, hx => by
    rw [readT]
    by_cases c : (oneT (t :: l)).2.2 = 0
    · rw [if_pos c]
      have hs := oneT_some t l c
      have h1 := oneT_ok t l (ht t List.mem_cons_self) (fun u hu => ht u (List.mem_cons_of_mem _ hu)) c
      obtain ⟨r1, r2, r3⟩ := readT_ok n (xs ++ [(oneT (t :: l)).1]) (i + (oneT (t :: l)).2.1) ((t :: l).drop (oneT (t :: l)).2.1.toNat) (fun u hu => ht u (List.mem_of_mem_drop hu)) (fun x h => by
        rcases List.mem_append.1 h with h | h
        · exact hx x h
        · rw [List.mem_singleton.1 h]; exact h1)
      refine ⟨r1, ?_, r3⟩
      simp only [List.length_append, List.length_cons, List.length_nil, List.length_drop] at r2 ⊢
      omega
    · rw [if_neg c]
      exact ⟨fun x h => absurd h (by simp), by simp, fun _ => rfl⟩

theorem TeletexNormal : sobriquetlaw18_TeletexNormal.Pure := by
  intro b _ _ hwf
  refine ⟨200000, ?_⟩
  unfold sobriquetlaw18_TeletexNormal.f
  by_cases hlen : (b.length : Int) > 300
  · rw [if_pos hlen]
  · rw [if_neg hlen]
    have hb : ∀ x ∈ b, 0 ≤ x ∧ x ≤ 255 := fun x hx => by
      have := hwf x hx
      simp [Lit.wf, IntKind.min, IntKind.max, IntKind.bits, IntKind.signed] at this
      omega
    obtain ⟨toks, a, e, ht, hok, hl⟩ := Tokens_tells b hb (by omega)
    rw [Read_f b toks a e ht (by omega) 200000 (by omega), Option.bind_some]
    by_cases c : e = 0
    · rw [if_pos c]
      obtain ⟨r1, r2, r3⟩ := readT_ok (toks.length + 1) [] 0 toks hok (fun x hx => absurd hx (by simp))
      rw [readL]
      obtain ⟨⟨s, a2, e2⟩, hr⟩ : ∃ x, readT (toks.length + 1) [] 0 toks = x := ⟨_, rfl⟩
      rw [hr] at r1 r2 r3 ⊢
      dsimp only [List.length_nil] at r1 r2 r3 ⊢
      by_cases c2 : e2 = 0
      · rw [if_pos c2]
        have hP : teletex_Put.f s = some (putT 102 [] 0 s) := by rw [teletex_Put.f, if_pos (by omega)]
        have hf := putT_fits s 102 [] 0 (by decide) r1
        obtain ⟨⟨x, a3, e3⟩, hq⟩ : ∃ x, putT 102 [] 0 s = x := ⟨_, rfl⟩
        rw [hq] at hf hP
        dsimp only at hf
        obtain ⟨rfl, rfl⟩ := hf
        have hx := (putT_bytes s 102 [] 0 (by simp)).2
        rw [hq] at hx
        simp only [List.length_nil] at hx
        rw [hP, Option.bind_some]
        dsimp only
        rw [put_read s x 0 (by omega) hP 200000 (by omega), Option.bind_some]
        dsimp only
        rw [hP, Option.bind_some]
        dsimp only
        rw [if_pos rfl, if_pos rfl, if_pos rfl, Ints_f _ _ 200000 (by omega) (by omega), Option.bind_some, if_pos (by simp), Bytes_f _ _ 200000 (by omega) (by omega), Option.bind_some, if_pos (by simp), wakes18 110000 (by decide)]
        rfl
      · rw [if_neg c2, r3 c2, if_pos (show (([] : List Int).length : Int) = 0 from rfl), wakes18 110000 (by decide)]
        rfl
    · rw [if_neg c]
      dsimp only
      rw [if_neg c, if_pos (show (([] : List Int).length : Int) = 0 from rfl), wakes18 110000 (by decide)]
      rfl
end Go.Proofs.Ytgcdfchchphpjaa.Pure
