/- Proved here, in plain Lean: how the tokens of known bytes are told, step by step. -/
import Derived.Test.YtgcdfchchphpjaaHShift
import Derived.Test.YtgcdfchchphpjaaHPut
namespace Go.Proofs.Ytgcdfchchphpjaa.M
set_option linter.unusedVariables false
set_option linter.unusedSimpArgs false
open Go.RowKit Go.Proofs.YtgcdfchchphpjaaW.PrintWords Go.Proofs.YtgcdfchchphpjaaW.PrintLast Go.Proofs.YtgcdfchchphpjaaW.PrintMore

/-- From one state of the reader to another in some steps, each of a byte at least. -/
def Steps (bs : List Int) (s s' : Rd) : Prop := ∃ m : Nat, s.i + (m : Int) ≤ s'.i ∧ ∀ n, tokS bs (n + m) s = tokS bs n s'
theorem Steps.refl (bs : List Int) (s : Rd) : Steps bs s s := ⟨0, by omega, fun n => rfl⟩
theorem Steps.trans {bs : List Int} {s s' s'' : Rd} (h : Steps bs s s') (h' : Steps bs s' s'') : Steps bs s s'' := by
  obtain ⟨m, hm, e⟩ := h
  obtain ⟨m', hm', e'⟩ := h'
  refine ⟨m' + m, by omega, fun n => ?_⟩
  rw [← Nat.add_assoc, e, e']
theorem Steps.one {bs : List Int} {s s' : Rd} (hlt : s.i < (bs.length : Int)) (e : oneS bs s = (0, s')) (h1 : s.i + 1 ≤ s'.i) : Steps bs s s' :=
  ⟨1, by omega, fun n => by rw [tokS, if_pos hlt, e, if_pos rfl]⟩
theorem Steps.done {bs : List Int} {s : Rd} (h : Steps bs rd0 s) (he : s.i = (bs.length : Int)) : tokS bs (bs.length + 1) rd0 = some (s.out, 0, 0) := by
  obtain ⟨m, hm, e⟩ := h
  have h0 : rd0.i = 0 := rfl
  rw [show bs.length + 1 = (bs.length - m + 1) + m by omega, e, tokS, if_neg (by omega)]
/-- .. and where a step falls. -/
theorem Steps.falls {bs : List Int} {s s' : Rd} {er : Int} (h : Steps bs rd0 s) (hlt : s.i < (bs.length : Int)) (hf : oneS bs s = (er, s')) (hne : er ≠ 0) : tokS bs (bs.length + 1) rd0 = some ([], s.i, er) := by
  obtain ⟨m, hm, e⟩ := h
  have h0 : rd0.i = 0 := rfl
  rw [show bs.length + 1 = (bs.length - m + 1) + m by omega, e, tokS, if_pos hlt, hf, if_neg hne]

/-! ### bytes -/
theorem lo_tab : (List.range 127).all (fun n => if 33 ≤ n then decide (sideS (n : Int) = (false, (n : Int), true)) && decide (sideS ((n : Int) + 128) = (true, (n : Int), true)) && decide (markB (n : Int) = (n : Int) + 128) else true) = true := by decide +kernel
theorem lo_at (p : Int) (h : 33 ≤ p ∧ p ≤ 126) : sideS p = (false, p, true) ∧ sideS (p + 128) = (true, p, true) ∧ markB p = p + 128 := by
  obtain ⟨n, rfl⟩ : ∃ n : Nat, p = (n : Int) := ⟨p.toNat, by omega⟩
  have h1 := List.all_eq_true.1 lo_tab n (List.mem_range.2 (by omega))
  rw [if_pos (by omega)] at h1
  simp only [Bool.and_eq_true, decide_eq_true_eq] at h1
  exact ⟨h1.1.1, h1.1.2, h1.2⟩
theorem two_tab : (List.range 127).all (fun a => (List.range 127).all (fun b => if 33 ≤ a ∧ 33 ≤ b then decide (Go.bits .or .i64 ((a : Int) * 256) (b : Int) = (a : Int) * 256 + (b : Int)) else true)) = true := by decide +kernel
theorem two_at (a b : Int) (ha : 33 ≤ a ∧ a ≤ 126) (hb : 33 ≤ b ∧ b ≤ 126) : Go.bits .or .i64 (a * 256) b = a * 256 + b := by
  obtain ⟨n, rfl⟩ : ∃ n : Nat, a = (n : Int) := ⟨a.toNat, by omega⟩
  obtain ⟨m, rfl⟩ : ∃ m : Nat, b = (m : Int) := ⟨b.toNat, by omega⟩
  have h1 := List.all_eq_true.1 (List.all_eq_true.1 two_tab n (List.mem_range.2 (by omega))) m (List.mem_range.2 (by omega))
  rw [if_pos (by omega)] at h1
  exact of_decide_eq_true h1

/-! ### one step -/
theorem drop_lt {bs : List Int} {j : Nat} {b : Int} {rest : List Int} (hd : bs.drop j = b :: rest) : j < bs.length := by
  have := congrArg List.length hd
  simp only [List.length_drop, List.length_cons] at this
  omega
theorem drop_rd {bs : List Int} {j : Nat} {b : Int} {rest : List Int} (hd : bs.drop j = b :: rest) : rd bs (j : Int) = b := by
  have hlt := drop_lt hd
  rw [rd_at bs j hlt]
  rw [List.drop_eq_getElem_cons hlt] at hd
  injection hd
theorem drop_next {bs : List Int} {j : Nat} {b : Int} {rest : List Int} (hd : bs.drop j = b :: rest) : bs.drop (j + 1) = rest := by
  rw [List.drop_eq_getElem_cons (drop_lt hd)] at hd
  injection hd
theorem nextS_at {bs : List Int} {s : Rd} {j : Nat} {b : Int} {rest : List Int} (hi : s.i = (j : Int)) (hd : bs.drop j = b :: rest) : nextS bs s = (b, 0, { s with i := ((j + 1 : Nat) : Int) }) := by
  have hlt := drop_lt hd
  unfold nextS
  rw [if_neg (by omega), hi, drop_rd hd]
  rfl
theorem nextS_none {bs : List Int} {s : Rd} {j : Nat} (hi : s.i = (j : Int)) (hd : bs.drop j = []) : nextS bs s = (0, 2, s) := by
  have := congrArg List.length hd
  simp only [List.length_drop, List.length_nil] at this
  unfold nextS
  rw [if_pos (by omega)]
section
variable {bs : List Int} {s : Rd} {j : Nat} {b : Int} {rest : List Int}
theorem one_ctl (hi : s.i = (j : Int)) (hd : bs.drop j = b :: rest) (hb : b ∈ ctl2) : oneS bs s = (0, { s with i := ((j + 1 : Nat) : Int), out := s.out ++ [⟨0, b⟩] }) := by
  unfold oneS
  rw [nextS_at hi hd]
  dsimp only
  rw [if_pos hb]
theorem steps_ctl (hi : s.i = (j : Int)) (hd : bs.drop j = b :: rest) (hb : b ∈ ctl2) : Steps bs s { s with i := ((j + 1 : Nat) : Int), out := s.out ++ [⟨0, b⟩] } :=
  Steps.one (by have := drop_lt hd; omega) (one_ctl hi hd hb) (by show s.i + 1 ≤ ((j + 1 : Nat) : Int); omega)
theorem one_lo (hi : s.i = (j : Int)) (hd : bs.drop j = b :: rest) (hb : 33 ≤ b ∧ b ≤ 126) : oneS bs s = placeS bs { s with i := ((j + 1 : Nat) : Int) } s.left b := by
  unfold oneS
  rw [nextS_at hi hd]
  dsimp only
  rw [if_neg (by simp [ctl2]; omega), if_neg (by omega), if_neg (by omega), if_neg (by omega), if_neg (by omega), if_neg (by omega)]
theorem one_hi (hi : s.i = (j : Int)) (hd : bs.drop j = b :: rest) (hb : 128 ≤ b) : oneS bs s = placeS bs { s with i := ((j + 1 : Nat) : Int) } s.right b := by
  unfold oneS
  rw [nextS_at hi hd]
  dsimp only
  rw [if_neg (by simp [ctl2]; omega), if_neg (by omega), if_neg (by omega), if_neg (by omega), if_neg (by omega), if_pos (by omega)]
theorem steps_lo {set : Int} (hi : s.i = (j : Int)) (hd : bs.drop j = b :: rest) (hb : 33 ≤ b ∧ b ≤ 126) (hg : gAt s s.left = set) (h0 : set ≠ 0) (h87 : set ≠ 87) : Steps bs s { s with i := ((j + 1 : Nat) : Int), out := s.out ++ [⟨set, b⟩] } := by
  refine Steps.one (by have := drop_lt hd; omega) ?_ (by show s.i + 1 ≤ ((j + 1 : Nat) : Int); omega)
  rw [one_lo hi hd hb]
  unfold placeS
  rw [(lo_at b hb).1]
  have e : gAt { s with i := ((j + 1 : Nat) : Int) } s.left = set := hg
  rw [e]
  dsimp only
  rw [if_pos rfl, if_neg h0, if_neg h87]
theorem steps_hi {set p : Int} (hi : s.i = (j : Int)) (hd : bs.drop j = (p + 128) :: rest) (hb : 33 ≤ p ∧ p ≤ 126) (hg : gAt s s.right = set) (h0 : set ≠ 0) (h87 : set ≠ 87) : Steps bs s { s with i := ((j + 1 : Nat) : Int), out := s.out ++ [⟨set, p⟩] } := by
  refine Steps.one (by have := drop_lt hd; omega) ?_ (by show s.i + 1 ≤ ((j + 1 : Nat) : Int); omega)
  rw [one_hi hi hd (by omega)]
  unfold placeS
  rw [(lo_at p hb).2.1]
  have e : gAt { s with i := ((j + 1 : Nat) : Int) } s.right = set := hg
  rw [e]
  dsimp only
  rw [if_pos rfl, if_neg h0, if_neg h87]
theorem steps_two {c : Int} (hi : s.i = (j : Int)) (hd : bs.drop j = b :: c :: rest) (hb : 33 ≤ b ∧ b ≤ 126) (hc : 33 ≤ c ∧ c ≤ 126) (hg : gAt s s.left = 87) : Steps bs s { s with i := ((j + 2 : Nat) : Int), out := s.out ++ [⟨87, b * 256 + c⟩] } := by
  refine Steps.one (by have := drop_lt hd; omega) ?_ (by show s.i + 1 ≤ ((j + 2 : Nat) : Int); omega)
  rw [one_lo hi hd hb]
  have hN : nextS bs { s with i := ((j + 1 : Nat) : Int) } = (c, 0, { s with i := ((j + 2 : Nat) : Int) }) := nextS_at (s := { s with i := ((j + 1 : Nat) : Int) }) (j := j + 1) rfl (drop_next hd)
  unfold placeS
  rw [(lo_at b hb).1, hN]
  have e : gAt { s with i := ((j + 1 : Nat) : Int) } s.left = 87 := hg
  rw [e]
  dsimp only
  rw [(lo_at c hc).1, two_at b c hb hc]
  dsimp only
  rw [if_pos rfl, if_neg (by decide), if_pos rfl, if_pos rfl, if_pos ⟨rfl, rfl⟩]
/-- A set of one byte is designated. -/
theorem steps_set {gi f set : Int} (hi : s.i = (j : Int)) (hd : bs.drop j = 27 :: (40 + gi) :: f :: rest) (h0 : 0 ≤ gi) (h3 : gi ≤ 3) (hf : byL f false setsL = (set, true)) : Steps bs s { gSet s gi set with i := ((j + 3 : Nat) : Int) } := by
  refine Steps.one (by have := drop_lt hd; omega) ?_ (by show s.i + 1 ≤ ((j + 3 : Nat) : Int); omega)
  have hN : nextS bs { s with i := ((j + 1 : Nat) : Int) } = (40 + gi, 0, { s with i := ((j + 2 : Nat) : Int) }) := nextS_at (s := { s with i := ((j + 1 : Nat) : Int) }) (j := j + 1) rfl (drop_next hd)
  have hN2 : nextS bs { s with i := ((j + 2 : Nat) : Int) } = (f, 0, { s with i := ((j + 3 : Nat) : Int) }) := nextS_at (s := { s with i := ((j + 2 : Nat) : Int) }) (j := j + 2) rfl (drop_next (drop_next hd))
  unfold oneS
  rw [nextS_at hi hd]
  dsimp only
  rw [if_neg (by decide), if_neg (by decide), if_neg (by decide), if_neg (by decide), if_pos rfl]
  unfold escS
  rw [hN]
  dsimp only
  rw [if_neg (by decide), if_neg (by omega), if_neg (by omega), if_neg (by omega), if_neg (by omega), if_neg (by omega), if_neg (by omega), show 40 + gi - 40 = gi by omega]
  unfold desigS
  rw [hN2]
  dsimp only
  rw [if_pos rfl, hf, if_pos rfl]
  unfold gSet
  split
  · rfl
  · split
    · rfl
    · split <;> rfl
/-- The set of two bytes is designated. -/
theorem steps_set87 {gi f : Int} (hi : s.i = (j : Int)) (hd : bs.drop j = 27 :: 36 :: (40 + gi) :: f :: rest) (h0 : 0 ≤ gi) (h3 : gi ≤ 3) (hf : byL f true setsL = (87, true)) : Steps bs s { gSet s gi 87 with i := ((j + 4 : Nat) : Int) } := by
  refine Steps.one (by have := drop_lt hd; omega) ?_ (by show s.i + 1 ≤ ((j + 4 : Nat) : Int); omega)
  have hN : nextS bs { s with i := ((j + 1 : Nat) : Int) } = (36, 0, { s with i := ((j + 2 : Nat) : Int) }) := nextS_at (s := { s with i := ((j + 1 : Nat) : Int) }) (j := j + 1) rfl (drop_next hd)
  have hN2 : nextS bs { s with i := ((j + 2 : Nat) : Int) } = (40 + gi, 0, { s with i := ((j + 3 : Nat) : Int) }) := nextS_at (s := { s with i := ((j + 2 : Nat) : Int) }) (j := j + 2) rfl (drop_next (drop_next hd))
  have hN3 : nextS bs { s with i := ((j + 3 : Nat) : Int) } = (f, 0, { s with i := ((j + 4 : Nat) : Int) }) := nextS_at (s := { s with i := ((j + 3 : Nat) : Int) }) (j := j + 3) rfl (drop_next (drop_next (drop_next hd)))
  unfold oneS
  rw [nextS_at hi hd]
  dsimp only
  rw [if_neg (by decide), if_neg (by decide), if_neg (by decide), if_neg (by decide), if_pos rfl]
  unfold escS
  rw [hN]
  dsimp only
  rw [hN2]
  dsimp only
  rw [if_neg (by decide), if_neg (by decide), if_neg (by decide), if_neg (by decide), if_neg (by decide), if_pos rfl, if_neg (by decide), if_neg (by omega), show 40 + gi - 40 = gi by omega]
  unfold desigS
  rw [hN3]
  dsimp only
  rw [if_pos rfl, hf, if_pos rfl]
  unfold gSet
  split
  · rfl
  · split
    · rfl
    · split <;> rfl
theorem steps_so (hi : s.i = (j : Int)) (hd : bs.drop j = 14 :: rest) : Steps bs s { s with i := ((j + 1 : Nat) : Int), left := 1 } := by
  refine Steps.one (by have := drop_lt hd; omega) ?_ (by show s.i + 1 ≤ ((j + 1 : Nat) : Int); omega)
  unfold oneS
  rw [nextS_at hi hd]
  dsimp only
  rw [if_neg (by decide), if_pos (.inl rfl)]
  rfl
theorem steps_ls {n : Int} (hi : s.i = (j : Int)) (hd : bs.drop j = 27 :: n :: rest) (hn : n = 110 ∨ n = 111) : Steps bs s { s with i := ((j + 2 : Nat) : Int), left := n - 108 } := by
  refine Steps.one (by have := drop_lt hd; omega) ?_ (by show s.i + 1 ≤ ((j + 2 : Nat) : Int); omega)
  have hN : nextS bs { s with i := ((j + 1 : Nat) : Int) } = (n, 0, { s with i := ((j + 2 : Nat) : Int) }) := nextS_at (s := { s with i := ((j + 1 : Nat) : Int) }) (j := j + 1) rfl (drop_next hd)
  unfold oneS
  rw [nextS_at hi hd]
  dsimp only
  rw [if_neg (by decide), if_neg (by decide), if_neg (by decide), if_neg (by decide), if_pos rfl]
  unfold escS
  rw [hN]
  dsimp only
  rw [if_neg (by decide), if_neg (by omega), if_neg (by omega), if_pos hn]
end
end Go.Proofs.Ytgcdfchchphpjaa.M
