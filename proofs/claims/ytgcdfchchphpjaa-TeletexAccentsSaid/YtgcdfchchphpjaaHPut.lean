/- Proved here, by hand: teletex.Put and teletex.Has come to what the plain functions putT and scalarS say. -/
import Derived.Test.YtgcdfchchphpjaaHTele
namespace Go.Proofs.Ytgcdfchchphpjaa.M
set_option linter.unusedVariables false
set_option linter.unusedSimpArgs false
open Go.RowKit Go.Proofs.YtgcdfchchphpjaaW.PrintWords Go.Proofs.YtgcdfchchphpjaaW.PrintLast Go.Proofs.YtgcdfchchphpjaaW.PrintMore

theorem scalarS_len (left ch : Int) : (scalarS left ch).2.1.length ≤ 6 := by
  unfold scalarS
  split
  · simp
  · split
    · exact Nat.le_trans (plB_len _ _) (by decide)
    · split
      · simp
      · split
        · exact accB2_len _ _ _
        · split
          · rename_i s _
            have h1 := escOf_len s
            have h2 := plB_len s ch
            simp only [List.length_append]
            omega
          · simp
theorem scalarS_ctl (left ch : Int) (hC : ch ∈ ctlAll) : scalarS left ch = (left, [IntKind.u8.wrap ch], true) := by unfold scalarS; rw [if_pos hC]
theorem scalarS_left (left ch : Int) (hC : ¬ ch ∈ ctlAll) (hL : (findL left ch codesAll).2 = true) : scalarS left ch = (left, plB left ch, true) := by unfold scalarS; rw [if_neg hC, if_pos hL]
theorem scalarS_right (left ch : Int) (hC : ¬ ch ∈ ctlAll) (hL : ¬ (findL left ch codesAll).2 = true) (hF : (findL 103 ch codesAll).2 = true) : scalarS left ch = (left, [markB (findL 103 ch codesAll).1], true) := by unfold scalarS; rw [if_neg hC, if_neg hL, if_pos hF]
theorem scalarS_accent (left ch : Int) (hC : ¬ ch ∈ ctlAll) (hL : ¬ (findL left ch codesAll).2 = true) (hF : ¬ (findL 103 ch codesAll).2 = true) (hA : (accentOf ch).2.2 = true) : scalarS left ch = (accLeft left (accentOf ch).2.1, accB2 left (accentOf ch).1 (accentOf ch).2.1, true) := by unfold scalarS; rw [if_neg hC, if_neg hL, if_neg hF, if_pos hA]
theorem scalarS_else (left ch : Int) (hC : ¬ ch ∈ ctlAll) (hL : ¬ (findL left ch codesAll).2 = true) (hF : ¬ (findL 103 ch codesAll).2 = true) (hA : ¬ (accentOf ch).2.2 = true) : scalarS left ch = match setFind ch setsAll with | some s => (s, escOf s ++ plB s ch, true) | none => (left, [], false) := by
  unfold scalarS
  rw [if_neg hC, if_neg hL, if_neg hF, if_neg hA]
  rfl
/-- One scalar, all ways. -/
theorem writer_scalar (left ch : Int) (l2 : Int) (b2 : List Int) (ok : Bool) (hq : scalarS left ch = (l2, b2, ok)) (xs : List Int) (hx : xs.length ≤ 800000) (A : Option Addr) (c g : Nat) (w0 w : World) (hH : WH w0 w g left xs A c) :
    Calls Try.prog 25 #[.pointer (some ⟨g, 0, none⟩), .int .i64 ch] w fun e w' => e = .returned (.bool ok) ∧ ∃ A' c', WH w0 w' g l2 (xs ++ b2) A' c' := by
  by_cases hC : ch ∈ ctlAll
  · rw [scalarS_ctl left ch hC] at hq
    simp only [Prod.mk.injEq] at hq
    obtain ⟨rfl, rfl, rfl⟩ := hq
    exact scalar_ctl left ch hC xs hx A c g w0 w hH
  · obtain ⟨⟨p0, i0⟩, hL⟩ : ∃ x, findL left ch codesAll = x := ⟨_, rfl⟩
    cases i0 with
    | true =>
      rw [scalarS_left left ch hC (by rw [hL])] at hq
      simp only [Prod.mk.injEq] at hq
      obtain ⟨rfl, rfl, rfl⟩ := hq
      rw [show plB left ch = placeB left p0 true from by rw [plB, hL]]
      exact scalar_left left ch p0 hC hL xs hx A c g w0 w hH
    | false =>
      have hL2 : ¬ (findL left ch codesAll).2 = true := by rw [hL]; exact Bool.false_ne_true
      obtain ⟨⟨p, i1⟩, hF⟩ : ∃ x, findL 103 ch codesAll = x := ⟨_, rfl⟩
      cases i1 with
      | true =>
        rw [scalarS_right left ch hC hL2 (by rw [hF]), hF] at hq
        simp only [Prod.mk.injEq] at hq
        obtain ⟨rfl, rfl, rfl⟩ := hq
        exact scalar_right left ch p0 p hC hL hF xs hx A c g w0 w hH
      | false =>
        have hF2 : ¬ (findL 103 ch codesAll).2 = true := by rw [hF]; exact Bool.false_ne_true
        by_cases hA : (accentOf ch).2.2 = true
        · rw [scalarS_accent left ch hC hL2 hF2 hA] at hq
          simp only [Prod.mk.injEq] at hq
          obtain ⟨rfl, rfl, rfl⟩ := hq
          exact scalar_accent left ch p0 p hC hL hF hA xs hx A c g w0 w hH
        · exact scalar_else left ch p0 p hC hL hF (by simpa using hA) (l2, b2, ok) (by rw [← hq, scalarS_else left ch hC hL2 hF2 hA]; cases setFind ch setsAll <;> rfl) xs hx A c g w0 w hH
theorem WH.start (w : World) : WH w (w.alloc (.cells #[.int .i64 102, .slice none 0 0] 54)) w.heap.size 102 [] none 0 :=
  ⟨heap_alloc_new w _, Nat.le_refl _, Kd.R_nil _ _ _ _ _, (Below.refl _ _).alloc (Nat.le_refl _) _⟩

/-! ### Has -/
def teletex_Has.f (a0 : Int) : Option Bool := some (scalarS 102 a0).2.2
set_option maxRecDepth 100000 in
set_option maxHeartbeats 2000000 in
theorem teletex_Has.calls (a0 : Int) (r : Bool) (w : World) (h : teletex_Has.f a0 = some r) :
    Calls Try.prog 11 #[.int .i64 a0] w fun e w' => e = .returned (.bool r) ∧ Below w.heap.size w w' := by
  have HE := Aside0.mk (Option.some.inj h)
  clear h
  have HH := Aside0.mk (WH.start w)
  obtain ⟨l2, b2, HQ⟩ : ∃ l2 b2, Aside0 (scalarS 102 a0 = (l2, b2, r)) := ⟨_, _, ⟨by rw [← HE.out]⟩⟩
  clear HE
  go_enter Try.func11, Try.ntmps11
  go_wp2_with (first | (go_at_call 25; (with_reducible refine (writer_scalar 102 a0 l2 b2 r HQ.out [] (by decide) none 0 w.heap.size w _ HH.out).mono ?_); rintro e w1 ⟨rfl, A1, c1, h1⟩; have H1 := Aside0.mk h1; clear h1 HH))
  go_ret
  exact ⟨rfl, H1.out.2.2.2⟩

/-! ### Put -/
def putT : Int → List Int → Nat → List Int → List Int × Int × Int
  | _, xs, _, [] => (xs, 0, 0)
  | left, xs, i, c :: t => if (scalarS left c).2.2 = true then putT (scalarS left c).1 (xs ++ (scalarS left c).2.1) (i + 1) t else ([], (i : Int), 14)
def teletex_Put.f (l0 : List Int) : Option (List Int × Int × Int) := if l0.length ≤ 1000 then some (putT 102 [] 0 l0) else none
set_option maxRecDepth 100000 in
set_option maxHeartbeats 2000000 in
theorem teletex_Put.calls (A0 : Option Addr) (c0 : Nat) (l0 : List Int) (r1 : List Int) (r2 : Int) (r3 : Int) (w : World) (hr0 : Kd.C (Kd.int .i64) w A0 l0.length l0) (hc0 : l0.length ≤ c0) (h : teletex_Put.f l0 = some (r1, r2, r3)) :
    Calls Try.prog 10 #[.slice A0 l0.length c0] w fun e w' => ∃ v0_ : Value, e = .returned (.tuple #[v0_, .int .i64 r2, .int .i64 r3]) ∧ Kd.R (Kd.int .u8) 5 w' w.heap.size (fun _ => True) v0_ r1 ∧ Below w.heap.size w w' := by
  have hl : l0.length ≤ 1000 := Nat.le_of_not_lt (fun hn => by rw [teletex_Put.f, if_neg (by omega)] at h; cases h)
  have HE : Aside0 (putT 102 [] 0 l0 = (r1, r2, r3)) := ⟨by rw [teletex_Put.f, if_pos hl] at h; exact Option.some.inj h⟩
  have HS0 := Aside0.mk hr0
  have HC0 := Aside0.mk hc0
  clear h hr0 hc0
  have HH := Aside0.mk (WH.start w)
  go_enter Try.func10, Try.ntmps10
  go_wp2
  go_loopw [12] (fun v wr => ∃ (k : Nat) (left : Int) (xs : List Int) (A : Option Addr) (c : Nat), v = .int .i64 k ∧ k ≤ l0.length ∧ xs.length ≤ 6 * k ∧ Aside0 (putT left xs k (l0.drop k) = (r1, r2, r3)) ∧ Aside0 (WH w wr w.heap.size left xs A c)) (fun v _ => l0.length - (intOf v).toNat)
  case atStart => exact ⟨0, 102, [], none, 0, rfl, Nat.zero_le _, by simp, HE, HH⟩
  case round =>
    clear HE HH
    obtain ⟨k, left, xs, A, c, rfl, hk, hxl, HE, HH⟩ := hrel
    have HS := Aside0.mk (Kd.C_below HS0.out HH.out.2.2.2)
    by_cases hlt : k < l0.length
    · obtain ⟨ad, e, hx5⟩ := Kd.at_int HS.out (k : Int) (by omega) (by omega)
      subst e
      have e2 : rd l0 (k : Int) = l0[k] := rd_at _ _ hlt
      rw [Int.toNat_natCast, e2] at hx5
      have HE2 : Aside0 (putT left xs k (l0[k] :: l0.drop (k + 1)) = (r1, r2, r3)) := ⟨by rw [← List.drop_eq_getElem_cons hlt]; exact HE.out⟩
      clear HE
      generalize l0[k] = ch at *
      clear e2
      have hlen := scalarS_len left ch
      obtain ⟨l2, b2, ok, hS⟩ : ∃ l2 b2 ok, scalarS left ch = (l2, b2, ok) := ⟨_, _, _, rfl⟩
      rw [hS] at hlen
      cases ok with
      | true =>
        have HE3 : Aside0 (putT l2 (xs ++ b2) (k + 1) (l0.drop (k + 1)) = (r1, r2, r3)) := ⟨by have := HE2.out; rw [putT, hS, if_pos rfl] at this; exact this⟩
        have HS2 := Aside0.mk hS
        have hlen2 : (xs ++ b2).length ≤ 6 * (k + 1) := by simp only [List.length_append]; simp only at hlen; omega
        clear hS HE2 hlen
        go_wp2_with (first | (go_at_call 25; (with_reducible refine (writer_scalar left ch l2 b2 true HS2.out xs (by omega) A c w.heap.size w _ HH.out).mono ?_); rintro e w1 ⟨rfl, A1, c1, h1⟩; have H1 := Aside0.mk h1; clear h1 HH HS hx5))
        go_roundw
        case rel => exact ⟨k + 1, l2, xs ++ b2, A1, c1, by go_num, by omega, hlen2, HE3, H1⟩
        case measure => simp [intOf]; omega
      | false =>
        have HE3 : Aside0 (r1 = [] ∧ r2 = (k : Int) ∧ r3 = 14) := ⟨by have := HE2.out; rw [putT, hS, if_neg Bool.false_ne_true] at this; simp only [Prod.mk.injEq] at this; exact ⟨this.1.symm, this.2.1.symm, this.2.2.symm⟩⟩
        have HS2 := Aside0.mk hS
        clear hS HE2 hlen
        go_wp2_with (first | (go_at_call 25; (with_reducible refine (writer_scalar left ch l2 b2 false HS2.out xs (by omega) A c w.heap.size w _ HH.out).mono ?_); rintro e w1 ⟨rfl, A1, c1, h1⟩; have H1 := Aside0.mk h1; clear h1 HH HS hx5))
        go_ret3
        obtain ⟨rfl, rfl, rfl⟩ := HE3.out
        exact ⟨_, rfl, Kd.R_nil _ _ _ _ _, H1.out.2.2.2⟩
    · have HE3 : Aside0 (r1 = xs ∧ r2 = 0 ∧ r3 = 0) := ⟨by have := HE.out; rw [List.drop_eq_nil_of_le (by omega), putT] at this; simp only [Prod.mk.injEq] at this; exact ⟨this.1.symm, this.2.1.symm, this.2.2.symm⟩⟩
      have hc1 := cell_W1 HH.out
      go_wp2
      go_ret3
      obtain ⟨rfl, rfl, rfl⟩ := HE3.out
      exact ⟨_, rfl, HH.out.2.2.1, HH.out.2.2.2⟩
end Go.Proofs.Ytgcdfchchphpjaa.M
