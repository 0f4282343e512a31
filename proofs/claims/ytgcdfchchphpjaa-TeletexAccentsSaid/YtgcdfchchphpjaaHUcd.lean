/- Proved here, by hand: what ucd.Canon, ucd.Compat and ucd.Fold hand back for any number: the first entry of their tables that has it, in new memory. -/
import Derived.Test.YtgcdfchchphpjaaM0
import Derived.Test.YtgcdfchchphpjaaM3
import Derived.Test.YtgcdfchchphpjaaM6
import Derived.Test.YtgcdfchchphpjaaHClone
import Derived.Test.YtgcdfchchphpjaaHVals
namespace Go.Proofs.Ytgcdfchchphpjaa.M
set_option linter.unusedVariables false
set_option linter.unusedSimpArgs false
open Go.RowKit Go.Proofs.YtgcdfchchphpjaaW.PrintWords Go.Proofs.YtgcdfchchphpjaaW.PrintLast Go.Proofs.YtgcdfchchphpjaaW.PrintMore

def took (a b : Int) : List Int := if b = 0 then [a] else [a, b]
def look48 : List S48 → Int → List Int
  | [], _ => []
  | x :: t, c => if x.f0 = c then took x.f1 x.f2 else look48 t c
theorem look_step48 (l : List S48) (k : Nat) (c : Int) (h : k < l.length) :
    look48 (l.drop k) c = if (rd_T48 l (k : Int)).f0 = c then took (rd_T48 l (k : Int)).f1 (rd_T48 l (k : Int)).f2 else look48 (l.drop (k + 1)) c := by
  rw [List.drop_eq_getElem_cons h]
  have e : rd_T48 l (k : Int) = l[k] := by simp [rd_T48, List.getD_eq_getElem?_getD, h]
  rw [e]; rfl
theorem taken_f (a b c : Int) : ucd_taken.f a b c = some (a, took b c) := by unfold ucd_taken.f took; split <;> rfl

set_option maxRecDepth 100000 in
set_option maxHeartbeats 2000000 in
theorem found48.calls (A0 : Option Addr) (c0 : Nat) (l0 : List S48) (key : Int) (w : World) (hr0 : Kd.C k48 w A0 l0.length l0) (hl : l0.length ≤ 1000000) :
    Calls Try.prog 58 #[.slice A0 l0.length c0, .func (.func 59) #[] #[], .int .i64 key] w fun e w' => ∃ v0_ : Value, e = .returned (v0_) ∧ Kd.R (Kd.int .i64) 3 w' w.heap.size (fun _ => True) v0_ (look48 l0 key) ∧ Below w.heap.size w w' := by
  have HR0 := Aside0.mk hr0
  clear hr0
  go_enter Try.func58, Try.ntmps58
  go_wp2
  go_loopw [14] (fun v wr => ∃ k : Nat, v = .int .i64 k ∧ k ≤ l0.length ∧ Aside0 (look48 (l0.drop k) key = look48 l0 key) ∧ Aside0 (Below w.heap.size w wr)) (fun v _ => l0.length - (intOf v).toNat)
  case atStart => exact ⟨0, rfl, Nat.zero_le _, ⟨rfl⟩, ⟨Below.refl _ _⟩⟩
  case round =>
    obtain ⟨k, rfl, hk, HL, HB⟩ := hrel
    by_cases hlt : k < l0.length
    · have HS := Aside0.mk ((look_step48 l0 k key hlt).symm.trans HL.out)
      obtain ⟨ad, e, hx0, hx1, hx2⟩ := at_T48 (Kd.C_below HR0.out HB.out) (k : Int) (by omega) (by omega)
      subst e
      simp only [Int.toNat_natCast] at hx0 hx1 hx2
      generalize rd_T48 l0 (k : Int) = el at *
      obtain ⟨x0, x1, x2⟩ := el
      simp only at hx0 hx1 hx2 HS
      clear HL
      by_cases c : x0 = key
      · have cb : (x0 == key) = true := beq_iff_eq.2 c
        have HS2 := Aside0.mk ((if_pos c).symm.trans HS.out)
        clear c HS
        go_wp2_with (first | (go_at_call 59; (with_reducible refine (ucd_taken.calls x0 x1 x2 x0 (took x1 x2) _ (taken_f x0 x1 x2)).mono ?_); rintro e w1 ⟨v1, rfl, ho, hb⟩; have HO := Aside0.mk ho; have HB2 := Aside0.mk hb; clear ho hb))
        go_ret
        have hB := HB.out
        have hB2 := HB2.out
        have hB3 : Below w.heap.size w w1 := (hB.alloc hB.size _).trans (hB2.mono (by have := hB.size; simp; omega))
        exact ⟨_, rfl, by rw [← HS2.out]; exact Kd.R_lower HO.out (by have := hB.size; simp; omega), hB3⟩
      · have cb : (x0 == key) = false := beq_eq_false_iff_ne.2 c
        have HS2 := Aside0.mk ((if_neg c).symm.trans HS.out)
        clear c HS
        go_wp2_with (first | (go_at_call 59; (with_reducible refine (ucd_taken.calls x0 x1 x2 x0 (took x1 x2) _ (taken_f x0 x1 x2)).mono ?_); rintro e w1 ⟨v1, rfl, ho, hb⟩; have HO := Aside0.mk ho; have HB2 := Aside0.mk hb; clear ho hb))
        have hB := HB.out
        have hB2 := HB2.out
        have hB3 : Below w.heap.size w w1 := (hB.alloc hB.size _).trans (hB2.mono (by have := hB.size; simp; omega))
        go_roundw
        case rel => exact ⟨k + 1, by go_num, by omega, HS2, ⟨hB3⟩⟩
        case measure => simp [intOf]; omega
    · have HE : Aside0 ([] = look48 l0 key) := ⟨by
        have := HL.out
        rw [List.drop_eq_nil_of_le (by omega)] at this
        exact this⟩
      clear HL
      go_wp2
      go_ret
      exact ⟨_, rfl, by rw [← HE.out]; exact Kd.R_nil _ _ _ _ _, HB.out⟩

theorem took_len (a b : Int) : (took a b).length ≤ 2 := by unfold took; split <;> simp
theorem look_len48 : ∀ (l : List S48) (c : Int), (look48 l c).length ≤ 2
  | [], _ => by simp [look48]
  | x :: t, c => by
    unfold look48
    split
    · exact took_len _ _
    · exact look_len48 t c
theorem clone_some (l : List Int) (h : l.length ≤ 1000) : slices_Clone_int_int.f l = some l := if_pos (by omega)

def ucd_Canon.f (a0 : Int) : Option (List Int) := some (look48 canonT a0)
theorem canonT_len : canonT.length ≤ 1000000 := by decide +kernel
set_option maxRecDepth 100000 in
set_option maxHeartbeats 2000000 in
theorem ucd_Canon.calls (a0 : Int) (r : List Int) (w : World) (h : ucd_Canon.f a0 = some r) :
    Calls Try.prog 53 #[.int .i64 a0] w fun e w' => ∃ v0_ : Value, e = .returned (v0_) ∧ Kd.R (Kd.int .i64) 3 w' w.heap.size (fun _ => True) v0_ r ∧ Below w.heap.size w w' := by
  have HE := Aside0.mk (Option.some.inj h)
  clear h
  go_enter Try.func53, Try.ntmps53
  go_wp2_with fail
  refine (api_Canon.calls 300 canonT _ canonT_eq).mono ?_
  rintro e w1 ⟨v1, rfl, ho1, hb1⟩
  obtain ⟨A1, c1, rfl⟩ := Kd.R_slice ho1
  have HO1 := Aside0.mk ho1
  have HB1 := Aside0.mk hb1
  clear ho1 hb1
  go_wp2_with fail
  refine (found48.calls A1 c1 canonT a0 w1 (Kd.R_reads' HO1.out).2.2 canonT_len).mono ?_
  rintro e w2 ⟨v2, rfl, ho2, hb2⟩
  obtain ⟨A2, c2, rfl⟩ := Kd.R_slice ho2
  have HO2 := Aside0.mk ho2
  have HB2 := Aside0.mk hb2
  clear ho2 hb2
  go_wp2_with fail
  refine (slices_Clone_int_int.calls A2 c2 (look48 canonT a0) _ w2 (Kd.R_reads' HO2.out).2.2 (Kd.R_reads' HO2.out).2.1 (clone_some _ (by have := look_len48 canonT a0; omega))).mono ?_
  rintro e w3 ⟨v3, rfl, ho3, hb3⟩
  have HO3 := Aside0.mk ho3
  have HB3 := Aside0.mk hb3
  clear ho3 hb3
  go_wp2
  go_ret
  have z1 := HB1.out.size
  have z2 := HB2.out.size
  exact ⟨_, rfl, by rw [← HE.out]; exact Kd.R_lower HO3.out (by omega), (HB1.out.trans (HB2.out.mono z1)).trans (HB3.out.mono (by omega))⟩

end Go.Proofs.Ytgcdfchchphpjaa.M
