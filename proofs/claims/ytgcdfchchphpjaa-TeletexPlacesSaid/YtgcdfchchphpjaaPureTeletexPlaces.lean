/- Proved here: for every at, g and p the statement TeletexPlaces returns true. No condition. -/
import Derived.Test.YtgcdfchchphpjaaM16
import Derived.Test.YtgcdfchchphpjaaM15
import Derived.Test.YtgcdfchchphpjaaHWakes18
namespace Go.Proofs.Ytgcdfchchphpjaa.Pure
set_option linter.unusedVariables false
set_option linter.unusedSimpArgs false
open Go.RowKit Go.Proofs.Ytgcdfchchphpjaa.M Go.Proofs.YtgcdfchchphpjaaW.PrintWords Go.Proofs.YtgcdfchchphpjaaW.PrintLast

theorem u64_tmod18 (a : Int) (m : Nat) (hm : 0 < m) (hl : m ≤ 1000000000) : ∃ q : Nat, q < m ∧ wrap64 (Int.tmod (IntKind.u64.wrap a) (m : Int)) = (q : Int) := by
  have h0 : 0 ≤ IntKind.u64.wrap a := by simp only [IntKind.wrap, IntKind.bits, IntKind.signed]; simp; omega
  have e : Int.tmod (IntKind.u64.wrap a) (m : Int) = IntKind.u64.wrap a % (m : Int) := Int.tmod_eq_emod_of_nonneg h0
  have h1 : 0 ≤ IntKind.u64.wrap a % (m : Int) := Int.emod_nonneg _ (by omega)
  have h2 : IntKind.u64.wrap a % (m : Int) < (m : Int) := Int.emod_lt_of_pos _ (by omega)
  refine ⟨(IntKind.u64.wrap a % (m : Int)).toNat, by omega, ?_⟩
  rw [e, wrap_id _ (by omega) (by omega)]
  omega
def escG (g set : Int) : List Int := if set = 87 then [27, 36, 40 + g, finalOf set % 256] else [27, 40 + g, finalOf set % 256]
theorem RefEscape_f (g set : Int) (hg : 0 ≤ g ∧ g ≤ 3) : sobriquetref13_Escape.f g set = some (escG g set) := by
  unfold sobriquetref13_Escape.f sobriquetref13_Wide.f escG
  rw [Option.bind_some, Option.bind_some, Final_f, Option.bind_some, Option.bind_some, wrap_id (40 + g) (by omega) (by omega), show (40 + g) % 256 = 40 + g by omega]
  by_cases c : set = 87
  · rw [if_pos (show (set == 87) = true by simp [c]), if_pos c]; rfl
  · rw [if_neg (show ¬ (set == 87) = true by simp [c]), if_neg c]; rfl
def headG (g : Int) : List Int := if g = 1 then [14] else if g = 2 then [27, 110] else if g = 3 then [27, 111] else []
theorem set7_tab : setsL.all (fun s => decide (s ≠ 0) && if s = 87 then decide (byL (finalOf s % 256) true setsL = (87, true)) else decide (byL (finalOf s % 256) false setsL = (s, true))) = true := by decide +kernel
theorem escG_steps (bs rest : List Int) (g set : Int) (hg : 0 ≤ g ∧ g ≤ 3) (hs : set ∈ setsL) (hb : bs = escG g set ++ rest) : M.Steps bs rd0 { gSet rd0 g set with i := (((escG g set).length : Nat) : Int) } := by
  have ht := List.all_eq_true.1 set7_tab set hs
  simp only [Bool.and_eq_true, decide_eq_true_eq] at ht
  have ht := ht.2
  unfold escG at hb ⊢
  by_cases c : set = 87
  · rw [if_pos c] at ht hb ⊢
    subst c
    exact steps_set87 (j := 0) (rest := rest) rfl (by rw [hb]; rfl) hg.1 hg.2 (of_decide_eq_true ht)
  · rw [if_neg c] at ht hb ⊢
    exact steps_set (j := 0) (rest := rest) rfl (by rw [hb]; rfl) hg.1 hg.2 (of_decide_eq_true ht)
/-- The set is designated and shifted to the left. -/
theorem shift_steps (bs rest : List Int) (g set : Int) (hg : 0 ≤ g ∧ g ≤ 3) (hs : set ∈ setsL) (hb : bs = escG g set ++ headG g ++ rest) :
    ∃ st, M.Steps bs rd0 st ∧ st.i = (((escG g set ++ headG g).length : Nat) : Int) ∧ gAt st st.left = set ∧ st.out = [] := by
  have s0 := escG_steps bs (headG g ++ rest) g set hg hs (by rw [hb, List.append_assoc])
  have hd : bs.drop (escG g set).length = headG g ++ rest := by rw [hb, List.append_assoc, List.drop_left]
  have : g = 0 ∨ g = 1 ∨ g = 2 ∨ g = 3 := by omega
  rcases this with rfl | rfl | rfl | rfl
  · exact ⟨_, s0, by simp [headG], rfl, rfl⟩
  · have s1 := steps_so (bs := bs) (s := { gSet rd0 1 set with i := (((escG 1 set).length : Nat) : Int) }) (j := (escG 1 set).length) (rest := rest) rfl hd
    exact ⟨_, s0.trans s1, by simp [headG], rfl, rfl⟩
  · have s1 := steps_ls (bs := bs) (s := { gSet rd0 2 set with i := (((escG 2 set).length : Nat) : Int) }) (j := (escG 2 set).length) (rest := rest) (n := 110) rfl hd (.inl rfl)
    exact ⟨_, s0.trans s1, by simp [headG], rfl, rfl⟩
  · have s1 := steps_ls (bs := bs) (s := { gSet rd0 3 set with i := (((escG 3 set).length : Nat) : Int) }) (j := (escG 3 set).length) (rest := rest) (n := 111) rfl hd (.inr rfl)
    exact ⟨_, s0.trans s1, by simp [headG], rfl, rfl⟩
theorem escG_bytes (g set : Int) (hg : 0 ≤ g ∧ g ≤ 3) : (∀ y ∈ escG g set ++ headG g, 0 ≤ y ∧ y ≤ 255) ∧ (escG g set ++ headG g).length ≤ 6 := by
  constructor
  · intro y hy
    rcases List.mem_append.1 hy with hy | hy
    · unfold escG at hy
      split at hy <;> (simp only [List.mem_cons, List.not_mem_nil, or_false] at hy; omega)
    · unfold headG at hy
      repeat' split at hy
      all_goals (simp only [List.mem_cons, List.not_mem_nil, or_false] at hy; try omega)
  · have h1 : (escG g set).length ≤ 4 := by unfold escG; split <;> simp
    have h2 : (headG g).length ≤ 2 := by unfold headG; repeat' split
                                         all_goals simp
    rw [List.length_append]
    omega
/-- One token of a set, behind its designation. -/
theorem place_tok (g set p : Int) (hg : 0 ≤ g ∧ g ≤ 3) (hs : set ∈ setsL) (pl : List Int) (hp : (set ≠ 87 ∧ pl = [p] ∧ 33 ≤ p ∧ p ≤ 126) ∨ (set = 87 ∧ pl = [p / 256, p % 256] ∧ 33 ≤ p / 256 ∧ p / 256 ≤ 126 ∧ 33 ≤ p % 256 ∧ p % 256 ≤ 126)) :
    shift_Tokens.f (escG g set ++ headG g ++ pl) = some ([⟨set, p⟩], 0, 0) := by
  obtain ⟨st, h1, h2, h3, h4⟩ := shift_steps (escG g set ++ headG g ++ pl) pl g set hg hs rfl
  obtain ⟨b1, b2⟩ := escG_bytes g set hg
  have hne := (by
    have ht := List.all_eq_true.1 set7_tab set hs
    simp only [Bool.and_eq_true, decide_eq_true_eq] at ht
    exact ht.1 : set ≠ 0)
  have hd : (escG g set ++ headG g ++ pl).drop (escG g set ++ headG g).length = pl := List.drop_left
  have hpl : (∀ y ∈ pl, 0 ≤ y ∧ y ≤ 255) ∧ pl.length ≤ 2 := by
    rcases hp with ⟨_, rfl, _⟩ | ⟨_, rfl, _⟩
    · exact ⟨fun y hy => by rw [List.mem_singleton.1 hy]; omega, by simp⟩
    · exact ⟨fun y hy => by simp only [List.mem_cons, List.not_mem_nil, or_false] at hy; omega, by simp⟩
  have hbytes : ∀ y ∈ escG g set ++ headG g ++ pl, 0 ≤ y ∧ y ≤ 255 := fun y hy => by
    rcases List.mem_append.1 hy with hy | hy
    · exact b1 y hy
    · exact hpl.1 y hy
  rw [shift_Tokens.f, if_pos ⟨List.all_eq_true.2 (fun y hy => decide_eq_true (hbytes y hy)), by rw [List.length_append]; omega⟩]
  rcases hp with ⟨c, rfl, p1, p2⟩ | ⟨c, rfl, p1, p2, p3, p4⟩
  · have s1 := steps_lo (rest := []) h2 hd ⟨p1, p2⟩ h3 hne c
    rw [(h1.trans s1).done (by simp; omega)]
    show some (st.out ++ _, _) = _
    rw [h4]
    rfl
  · have s1 := steps_two (rest := []) h2 hd ⟨p1, p2⟩ ⟨p3, p4⟩ (by rw [h3]; exact c)
    rw [(h1.trans s1).done (by simp; omega)]
    show some (st.out ++ _, _) = _
    rw [h4, c, show p / 256 * 256 + p % 256 = p by omega]
    rfl
theorem read_one (bs : List Int) (t : S74) (ht : shift_Tokens.f bs = some ([t], 0, 0)) (k : Nat) (hk : 110000 ≤ k) :
    teletex_Read.f k bs = some (if (oneT [t]).2.2 = 0 then ([(oneT [t]).1], 0, 0) else ([], 0, (oneT [t]).2.2)) := by
  rw [Read_f bs [t] 0 0 ht (by simp) k hk, if_pos rfl, readL]
  show some (readT 2 [] 0 [t]) = _
  rw [readT]
  by_cases c : (oneT [t]).2.2 = 0
  · rw [if_pos c, if_pos c]
    have := oneT_some t [] c
    have h1 : (oneT [t]).2.1 = 1 := by
      rcases this with h | ⟨_, h⟩
      · exact h
      · exact absurd rfl h
    rw [h1]
    rfl
  · rw [if_neg c, if_neg c]
theorem places_j2 (g p2 : Int) (x : S38) (hg : 0 ≤ g ∧ g ≤ 3) (hs : x.f0 ∈ setsL) (hp2 : 33 ≤ p2 ∧ p2 ≤ 126) (b : Bool) (hb : b = false → x.f0 ≠ 87 ∧ x.f0 ≠ 103) (k : Nat) (hk : 120000 ≤ k) :
    sobriquetlaw18_TeletexPlaces.j2 k p2 (escG g x.f0 ++ headG g) b x.f0 x.f1 x.f2 = some true := by
  obtain ⟨k, rfl⟩ : ∃ m, k = m + 1 := ⟨k - 1, by omega⟩
  simp only [sobriquetlaw18_TeletexPlaces.j2]
  cases b with
  | true => rw [if_pos rfl, wakes18 110000 (by decide)]; rfl
  | false =>
    obtain ⟨h1, h2⟩ := hb rfl
    rw [if_neg Bool.false_ne_true, Get_f _ _ k (by omega), Option.bind_some]
    by_cases c : (getL x.f0 p2 codesAll).2 = true
    · rw [if_pos c, wakes18 110000 (by decide)]; rfl
    · have hlen := (escG_bytes g x.f0 hg).2
      have ht := place_tok g x.f0 p2 hg hs [p2] (.inl ⟨h1, rfl, hp2⟩)
      have hne := (by
        have ht := List.all_eq_true.1 set7_tab x.f0 hs
        simp only [Bool.and_eq_true, decide_eq_true_eq] at ht
        exact ht.1 : x.f0 ≠ 0)
      have ho : oneT [⟨x.f0, p2⟩] = (0, 0, 13) := by
        unfold oneT
        dsimp only
        rw [if_neg hne, if_neg c, if_neg (fun h => h2 h.1)]
      rw [if_neg c, if_pos (by omega), show p2 % 256 = p2 by omega, read_one _ _ ht k (by omega), ho, Option.bind_some, if_neg (show ¬ ((0, 0, 13) : Int × Int × Int).2.2 = 0 by decide)]
      dsimp only
      rw [if_pos rfl, wakes18 110000 (by decide)]
      rfl
theorem places_j1 (g a2 : Int) (x : S38) (hg : 0 ≤ g ∧ g ≤ 3) (hs : x.f0 ∈ setsL) (k : Nat) (hk : 120001 ≤ k) :
    sobriquetlaw18_TeletexPlaces.j1 k a2 (escG g x.f0 ++ headG g) false x.f0 x.f1 x.f2 = some true := by
  obtain ⟨k, rfl⟩ : ∃ m, k = m + 1 := ⟨k - 1, by omega⟩
  obtain ⟨q, hq, e⟩ := u64_tmod18 a2 94 (by omega) (by omega)
  simp only [Int.cast_ofNat_Int] at e
  simp only [sobriquetlaw18_TeletexPlaces.j1]
  unfold csets_Wide.f
  rw [if_neg Bool.false_ne_true, Option.bind_some, e, wrap_id (33 + (q : Int)) (by omega) (by omega)]
  by_cases c : x.f0 = 87
  · rw [if_pos (show (x.f0 == 87) = true by simp [c])]
    exact places_j2 g _ x hg hs (by omega) true (fun h => absurd h (by decide)) k (by omega)
  · rw [if_neg (show ¬ (x.f0 == 87) = true by simp [c])]
    exact places_j2 g _ x hg hs (by omega) _ (fun h => ⟨c, by simpa using h⟩) k (by omega)
theorem places_j0 (g a2 : Int) (x : S38) (hx : codeFact2 x = true) (hg : 0 ≤ g ∧ g ≤ 3) (pl : List Int) (hpl : pl = if x.f0 = 87 then [x.f1 / 256, x.f1 % 256] else [x.f1]) (k : Nat) (hk : 120002 ≤ k) :
    sobriquetlaw18_TeletexPlaces.j0 k a2 (escG g x.f0 ++ headG g) pl x.f0 x.f1 x.f2 = some true := by
  obtain ⟨k, rfl⟩ : ∃ m, k = m + 1 := ⟨k - 1, by omega⟩
  unfold codeFact2 at hx
  simp only [Bool.and_eq_true, decide_eq_true_eq] at hx
  obtain ⟨⟨⟨⟨⟨h1, h2⟩, h3⟩, h4⟩, h5⟩, h6⟩ := hx
  have h7 : (x.f0 == 87) = decide (x.f1 > 255) := by simpa using h2
  have hlen := (escG_bytes g x.f0 hg).2
  have ht := place_tok g x.f0 x.f1 hg h6 pl (by
    by_cases c : x.f0 = 87
    · rw [if_pos c] at hpl
      have : x.f1 > 255 := by
        rw [c] at h7
        exact of_decide_eq_true (h7.symm.trans (by decide))
      exact .inr ⟨c, hpl, h5 this, by omega, h3.1, h3.2⟩
    · rw [if_neg c] at hpl
      have : ¬ x.f1 > 255 := fun h => by
        rw [decide_eq_true h] at h7
        exact c (by simpa using h7)
      exact .inl ⟨c, hpl, by omega, by omega⟩)
  have hne := (by
    have ht := List.all_eq_true.1 set7_tab x.f0 h6
    simp only [Bool.and_eq_true, decide_eq_true_eq] at ht
    exact ht.1 : x.f0 ≠ 0)
  have ho : oneT [⟨x.f0, x.f1⟩] = (x.f2, 1, 0) := by
    unfold oneT
    dsimp only
    rw [if_neg hne, h1, if_pos rfl]
  have hpn : pl.length ≤ 2 := by rw [hpl]; split <;> simp
  have htw : sobriquetkeep_Twin.f (escG g x.f0 ++ headG g) = some (escG g x.f0 ++ headG g) := by
    unfold sobriquetkeep_Twin.f
    rw [if_pos (by simp only [List.length_nil]; omega), List.nil_append]
  simp only [sobriquetlaw18_TeletexPlaces.j0]
  rw [htw, Option.bind_some, if_pos (by omega), read_one _ _ ht k (by omega), ho, Option.bind_some, if_pos (show ((x.f2, 1, 0) : Int × Int × Int).2.2 = 0 from rfl)]
  dsimp only
  rw [if_pos rfl, Ints_f _ _ k (by simp) (by simp only [List.length_cons, List.length_nil]; omega), Option.bind_some, show (!decide ([x.f2] = [x.f2])) = false by simp]
  exact places_j1 g a2 x hg h6 k (by omega)
theorem TeletexPlaces : sobriquetlaw18_TeletexPlaces.Pure := by
  intro a0 a1 a2 _ _ _
  refine ⟨200000, ?_⟩
  obtain ⟨q, hq, e⟩ := u64_tmod18 a0 583 (by omega) (by omega)
  obtain ⟨g, hg, e2⟩ := u64_tmod18 a1 4 (by omega) (by omega)
  simp only [Int.cast_ofNat_Int] at e e2
  have hl : codesAll.length = 583 := codes_len
  have hw : IntKind.u64.wrap ((codesAll.length : Int)) = 583 := by rw [hl]; decide
  have hA := code_facts2
  have hx : codeFact2 (rd_T38 codesAll (q : Int)) = true := by
    rw [rdT_code codesAll q (by omega)]
    exact List.all_eq_true.1 hA _ (List.getElem_mem _)
  unfold sobriquetlaw18_TeletexPlaces.f
  rw [show api_Codes.f = some codesAll from rfl, Option.bind_some, hw, e, e2, if_neg (by rw [hl]; decide), if_neg (by decide), if_pos (by omega), if_pos (by rw [hl]; omega)]
  generalize rd_T38 codesAll (q : Int) = x at *
  have hg2 : 0 ≤ (g : Int) ∧ (g : Int) ≤ 3 := by omega
  have hlen := (escG_bytes (g : Int) x.f0 hg2).2
  have hh : rd_L12 ([[], [14], [27, 110], [27, 111]] : List (List Int)) (g : Int) = headG (g : Int) := by
    have : g = 0 ∨ g = 1 ∨ g = 2 ∨ g = 3 := by omega
    rcases this with rfl | rfl | rfl | rfl <;> rfl
  rw [RefEscape_f _ _ hg2, Option.bind_some, Option.bind_some, if_pos (by omega), if_pos (by simp only [List.length_cons, List.length_nil]; omega), hh, if_pos (by rw [List.length_append] at hlen; omega), Option.bind_some]
  have hf := hx
  unfold codeFact2 at hf
  simp only [Bool.and_eq_true, decide_eq_true_eq] at hf
  obtain ⟨⟨⟨⟨⟨h1, h2⟩, h3⟩, h4⟩, h5⟩, h6⟩ := hf
  have h7 : (x.f0 == 87) = decide (x.f1 > 255) := by simpa using h2
  unfold csets_Wide.f
  rw [Option.bind_some]
  by_cases c : x.f0 = 87
  · rw [if_pos (show (x.f0 == 87) = true by simp [c]), Int.tdiv_eq_ediv_of_nonneg (by omega), wrap_id _ (by omega) (by omega), show x.f1 / 256 % 256 = x.f1 / 256 by omega]
    exact places_j0 g a2 x hx hg2 _ (by rw [if_pos c]) 200000 (by omega)
  · have : ¬ x.f1 > 255 := fun h => by
      rw [decide_eq_true h] at h7
      exact c (by simpa using h7)
    rw [if_neg (show ¬ (x.f0 == 87) = true by simp [c]), show x.f1 % 256 = x.f1 by omega]
    exact places_j0 g a2 x hx hg2 _ (by rw [if_neg c]) 200000 (by omega)
end Go.Proofs.Ytgcdfchchphpjaa.Pure
