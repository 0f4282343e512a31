/- Proved here, by hand: what ucd.Canon, ucd.Compat and ucd.Fold hand back for any number: the first entry of their tables that has it, in new memory. -/
import Derived.Test.YtimpcabimncnfaaM0
import Derived.Test.YtimpcabimncnfaaM3
import Derived.Test.YtimpcabimncnfaaM7
import Derived.Test.YtimpcabimncnfaaM5
import Derived.Test.YtimpcabimncnfaaHClone
import Derived.Test.YtimpcabimncnfaaHVals
namespace Go.Proofs.Ytimpcabimncnfaa.M
set_option linter.unusedVariables false
set_option linter.unusedSimpArgs false
open Go.RowKit Go.Proofs.YtimpcabimncnfaaW.PrintWords Go.Proofs.YtimpcabimncnfaaW.PrintLast Go.Proofs.YtimpcabimncnfaaW.PrintMore

def took (a b : Int) : List Int := if b = 0 then [a] else [a, b]
def look41 : List S41 → Int → List Int
  | [], _ => []
  | x :: t, c => if x.f0 = c then took x.f1 x.f2 else look41 t c
def look43 : List S43 → Int → List Int
  | [], _ => []
  | x :: t, c => if x.f0 = c then x.f1 else look43 t c

theorem look_step41 (l : List S41) (k : Nat) (c : Int) (h : k < l.length) :
    look41 (l.drop k) c = if (rd_T41 l (k : Int)).f0 = c then took (rd_T41 l (k : Int)).f1 (rd_T41 l (k : Int)).f2 else look41 (l.drop (k + 1)) c := by
  rw [List.drop_eq_getElem_cons h]
  have e : rd_T41 l (k : Int) = l[k] := by simp [rd_T41, List.getD_eq_getElem?_getD, h]
  rw [e]; rfl
theorem look_step43 (l : List S43) (k : Nat) (c : Int) (h : k < l.length) :
    look43 (l.drop k) c = if (rd_T43 l (k : Int)).f0 = c then (rd_T43 l (k : Int)).f1 else look43 (l.drop (k + 1)) c := by
  rw [List.drop_eq_getElem_cons h]
  have e : rd_T43 l (k : Int) = l[k] := by simp [rd_T43, List.getD_eq_getElem?_getD, h]
  rw [e]; rfl
theorem taken_f (a b c : Int) : ucd_taken.f a b c = some (a, took b c) := by unfold ucd_taken.f took; split <;> rfl

set_option maxRecDepth 100000 in
set_option maxHeartbeats 2000000 in
theorem found41.calls (A0 : Option Addr) (c0 : Nat) (l0 : List S41) (key : Int) (w : World) (hr0 : Kd.C k41 w A0 l0.length l0) (hl : l0.length ≤ 1000000) :
    Calls Try.prog 43 #[.slice A0 l0.length c0, .func (.func 44) #[] #[], .int .i64 key] w fun e w' => ∃ v0_ : Value, e = .returned (v0_) ∧ Kd.R (Kd.int .i64) 3 w' w.heap.size (fun _ => True) v0_ (look41 l0 key) ∧ Below w.heap.size w w' := by
  have HR0 := Aside0.mk hr0
  clear hr0
  go_enter Try.func43, Try.ntmps43
  go_wp2
  go_loopw [14] (fun v wr => ∃ k : Nat, v = .int .i64 k ∧ k ≤ l0.length ∧ Aside0 (look41 (l0.drop k) key = look41 l0 key) ∧ Aside0 (Below w.heap.size w wr)) (fun v _ => l0.length - (intOf v).toNat)
  case atStart => exact ⟨0, rfl, Nat.zero_le _, ⟨rfl⟩, ⟨Below.refl _ _⟩⟩
  case round =>
    obtain ⟨k, rfl, hk, HL, HB⟩ := hrel
    by_cases hlt : k < l0.length
    · have HS := Aside0.mk ((look_step41 l0 k key hlt).symm.trans HL.out)
      obtain ⟨ad, e, hx0, hx1, hx2⟩ := at_T41 (Kd.C_below HR0.out HB.out) (k : Int) (by omega) (by omega)
      subst e
      simp only [Int.toNat_natCast] at hx0 hx1 hx2
      generalize rd_T41 l0 (k : Int) = el at *
      obtain ⟨x0, x1, x2⟩ := el
      simp only at hx0 hx1 hx2 HS
      clear HL
      by_cases c : x0 = key
      · have cb : (x0 == key) = true := beq_iff_eq.2 c
        have HS2 := Aside0.mk ((if_pos c).symm.trans HS.out)
        clear c HS
        go_wp2_with (first | (go_at_call 44; (with_reducible refine (ucd_taken.calls x0 x1 x2 x0 (took x1 x2) _ (taken_f x0 x1 x2)).mono ?_); rintro e w1 ⟨v1, rfl, ho, hb⟩; have HO := Aside0.mk ho; have HB2 := Aside0.mk hb; clear ho hb))
        go_ret
        have hB := HB.out
        have hB2 := HB2.out
        have hB3 : Below w.heap.size w w1 := (hB.alloc hB.size _).trans (hB2.mono (by have := hB.size; simp; omega))
        exact ⟨_, rfl, by rw [← HS2.out]; exact Kd.R_lower HO.out (by have := hB.size; simp; omega), hB3⟩
      · have cb : (x0 == key) = false := beq_eq_false_iff_ne.2 c
        have HS2 := Aside0.mk ((if_neg c).symm.trans HS.out)
        clear c HS
        go_wp2_with (first | (go_at_call 44; (with_reducible refine (ucd_taken.calls x0 x1 x2 x0 (took x1 x2) _ (taken_f x0 x1 x2)).mono ?_); rintro e w1 ⟨v1, rfl, ho, hb⟩; have HO := Aside0.mk ho; have HB2 := Aside0.mk hb; clear ho hb))
        have hB := HB.out
        have hB2 := HB2.out
        have hB3 : Below w.heap.size w w1 := (hB.alloc hB.size _).trans (hB2.mono (by have := hB.size; simp; omega))
        go_roundw
        case rel => exact ⟨k + 1, by go_num, by omega, HS2, ⟨hB3⟩⟩
        case measure => simp [intOf]; omega
    · have HE : Aside0 ([] = look41 l0 key) := ⟨by
        have := HL.out
        rw [List.drop_eq_nil_of_le (by omega)] at this
        exact this⟩
      clear HL
      go_wp2
      go_ret
      exact ⟨_, rfl, by rw [← HE.out]; exact Kd.R_nil _ _ _ _ _, HB.out⟩

set_option maxRecDepth 100000 in
set_option maxHeartbeats 2000000 in
theorem mapped_reads (a : Int) (A : Option Addr) (n c : Nat) (w : World) :
    Calls Try.prog 46 #[.agg #[.int .i64 a, .slice A n c]] w fun e w' => e = .returned (.tuple #[.int .i64 a, .slice A n c]) ∧ Below w.heap.size w w' := by
  go_enter Try.func46, Try.ntmps46
  go_wp2
  go_quiet (fail)
  go_wp2
  go_ret2
  exact ⟨rfl, pw_below_drewN ((Below.refl _ _).alloc (Nat.le_refl _) _) _⟩

set_option maxRecDepth 100000 in
set_option maxHeartbeats 2000000 in
theorem found43.calls (A0 : Option Addr) (c0 : Nat) (l0 : List S43) (key : Int) (w : World) (hr0 : Kd.C k43 w A0 l0.length l0) (hl : l0.length ≤ 1000000) :
    Calls Try.prog 45 #[.slice A0 l0.length c0, .func (.func 46) #[] #[], .int .i64 key] w fun e w' => ∃ A c, e = .returned (.slice A (look43 l0 key).length c) ∧ Kd.C (Kd.int .i64) w' A (look43 l0 key).length (look43 l0 key) ∧ (look43 l0 key).length ≤ c ∧ Below w.heap.size w w' := by
  have HR0 := Aside0.mk hr0
  clear hr0
  go_enter Try.func45, Try.ntmps45
  go_wp2
  go_loopw [14] (fun v wr => ∃ k : Nat, v = .int .i64 k ∧ k ≤ l0.length ∧ Aside0 (look43 (l0.drop k) key = look43 l0 key) ∧ Aside0 (Below w.heap.size w wr)) (fun v _ => l0.length - (intOf v).toNat)
  case atStart => exact ⟨0, rfl, Nat.zero_le _, ⟨rfl⟩, ⟨Below.refl _ _⟩⟩
  case round =>
    obtain ⟨k, rfl, hk, HL, HB⟩ := hrel
    by_cases hlt : k < l0.length
    · have HS := Aside0.mk ((look_step43 l0 k key hlt).symm.trans HL.out)
      obtain ⟨ad, A1, c1, e, hx0, hx1, hc1, hr1⟩ := at_T43 (Kd.C_below HR0.out HB.out) (k : Int) (by omega) (by omega)
      subst e
      simp only [Int.toNat_natCast] at hx0 hx1
      generalize rd_T43 l0 (k : Int) = el at *
      obtain ⟨x0, x1⟩ := el
      simp only at hx0 hx1 hc1 hr1 HS
      have HR1 := Aside0.mk hr1
      have HC1 := Aside0.mk hc1
      clear HL hr1 hc1
      generalize hn : x1.length = n1 at hx1
      have HN := Aside0.mk hn
      clear hn
      by_cases c : x0 = key
      · have cb : (x0 == key) = true := beq_iff_eq.2 c
        have HS2 := Aside0.mk ((if_pos c).symm.trans HS.out)
        clear c HS
        go_wp2_with (first | (go_at_call 46; (with_reducible refine (mapped_reads x0 A1 n1 c1 _).mono ?_); rintro e w1 ⟨rfl, hb⟩; have HB2 := Aside0.mk hb; clear hb))
        go_ret
        have hB := HB.out
        have hB2 := HB2.out
        have hB3 : Below w.heap.size w w1 := (hB.alloc hB.size _).trans (hB2.mono (by have := hB.size; simp; omega))
        have hR1 := Kd.C_below HR1.out ((below_alloc (Below.refl _ _) _).trans (hB2.mono (by simp)))
        have hN := HN.out
        subst hN
        exact ⟨A1, c1, congrArg (fun l => Ending.returned (.slice A1 (List.length l) c1)) HS2.out, by rw [← HS2.out]; exact hR1, by rw [← HS2.out]; exact HC1.out, hB3⟩
      · have cb : (x0 == key) = false := beq_eq_false_iff_ne.2 c
        have HS2 := Aside0.mk ((if_neg c).symm.trans HS.out)
        clear c HS
        go_wp2_with (first | (go_at_call 46; (with_reducible refine (mapped_reads x0 A1 n1 c1 _).mono ?_); rintro e w1 ⟨rfl, hb⟩; have HB2 := Aside0.mk hb; clear hb))
        have hB := HB.out
        have hB2 := HB2.out
        have hB3 : Below w.heap.size w w1 := (hB.alloc hB.size _).trans (hB2.mono (by have := hB.size; simp; omega))
        go_roundw
        case rel => exact ⟨k + 1, by go_num, by omega, HS2, ⟨hB3⟩⟩
        case measure => simp [intOf]; omega
    · have HE : Aside0 ([] = look43 l0 key) := ⟨by
        have := HL.out
        rw [List.drop_eq_nil_of_le (by omega)] at this
        exact this⟩
      clear HL
      go_wp2
      go_ret
      exact ⟨none, 0, by rw [← HE.out]; rfl, by rw [← HE.out]; exact Kd.C_nil _ _, by rw [← HE.out]; exact Nat.le_refl _, HB.out⟩

theorem took_len (a b : Int) : (took a b).length ≤ 2 := by unfold took; split <;> simp
theorem look_len41 : ∀ (l : List S41) (c : Int), (look41 l c).length ≤ 2
  | [], _ => by simp [look41]
  | x :: t, c => by
    unfold look41
    split
    · exact took_len _ _
    · exact look_len41 t c
theorem look_len43 (n : Nat) : ∀ (l : List S43) (c : Int), (l.all fun x => decide (x.f1.length ≤ n)) = true → (look43 l c).length ≤ n
  | [], _, _ => by simp [look43]
  | x :: t, c, h => by
    simp only [List.all_cons, Bool.and_eq_true, decide_eq_true_eq] at h
    unfold look43
    split
    · exact h.1
    · exact look_len43 n t c h.2
theorem clone_some (l : List Int) (h : l.length ≤ 1000) : slices_Clone_int_int.f l = some l := if_pos (by omega)

def ucd_Canon.f (a0 : Int) : Option (List Int) := some (look41 canonT a0)
def ucd_Compat.f (a0 : Int) : Option (List Int) := some (look43 compatT a0)
def ucd_Fold.f (a0 : Int) : Option (List Int) := some (look43 foldsT a0)
theorem canonT_len : canonT.length ≤ 1000000 := by decide +kernel
theorem compatT_len : compatT.length ≤ 1000000 := by decide +kernel
theorem foldsT_len : foldsT.length ≤ 1000000 := by decide +kernel
theorem compatT_all : (compatT.all fun x => decide (x.f1.length ≤ 1000)) = true := by decide +kernel
theorem foldsT_all : (foldsT.all fun x => decide (x.f1.length ≤ 1000)) = true := by decide +kernel

set_option maxRecDepth 100000 in
set_option maxHeartbeats 2000000 in
theorem ucd_Canon.calls (a0 : Int) (r : List Int) (w : World) (h : ucd_Canon.f a0 = some r) :
    Calls Try.prog 20 #[.int .i64 a0] w fun e w' => ∃ v0_ : Value, e = .returned (v0_) ∧ Kd.R (Kd.int .i64) 3 w' w.heap.size (fun _ => True) v0_ r ∧ Below w.heap.size w w' := by
  have HE := Aside0.mk (Option.some.inj h)
  clear h
  go_enter Try.func20, Try.ntmps20
  go_wp2_with fail
  refine (api_Canon.calls 300 canonT _ canonT_eq).mono ?_
  rintro e w1 ⟨v1, rfl, ho1, hb1⟩
  obtain ⟨A1, c1, rfl⟩ := Kd.R_slice ho1
  have HO1 := Aside0.mk ho1
  have HB1 := Aside0.mk hb1
  clear ho1 hb1
  go_wp2_with fail
  refine (found41.calls A1 c1 canonT a0 w1 (Kd.R_reads' HO1.out).2.2 canonT_len).mono ?_
  rintro e w2 ⟨v2, rfl, ho2, hb2⟩
  obtain ⟨A2, c2, rfl⟩ := Kd.R_slice ho2
  have HO2 := Aside0.mk ho2
  have HB2 := Aside0.mk hb2
  clear ho2 hb2
  go_wp2_with fail
  refine (slices_Clone_int_int.calls A2 c2 (look41 canonT a0) _ w2 (Kd.R_reads' HO2.out).2.2 (Kd.R_reads' HO2.out).2.1 (clone_some _ (by have := look_len41 canonT a0; omega))).mono ?_
  rintro e w3 ⟨v3, rfl, ho3, hb3⟩
  have HO3 := Aside0.mk ho3
  have HB3 := Aside0.mk hb3
  clear ho3 hb3
  go_wp2
  go_ret
  have z1 := HB1.out.size
  have z2 := HB2.out.size
  exact ⟨_, rfl, by rw [← HE.out]; exact Kd.R_lower HO3.out (by omega), (HB1.out.trans (HB2.out.mono z1)).trans (HB3.out.mono (by omega))⟩

set_option maxRecDepth 100000 in
set_option maxHeartbeats 2000000 in
theorem ucd_Compat.calls (a0 : Int) (r : List Int) (w : World) (h : ucd_Compat.f a0 = some r) :
    Calls Try.prog 23 #[.int .i64 a0] w fun e w' => ∃ v0_ : Value, e = .returned (v0_) ∧ Kd.R (Kd.int .i64) 3 w' w.heap.size (fun _ => True) v0_ r ∧ Below w.heap.size w w' := by
  have HE := Aside0.mk (Option.some.inj h)
  clear h
  go_enter Try.func23, Try.ntmps23
  go_wp2_with fail
  refine (api_Compat.calls 300 compatT _ compatT_eq).mono ?_
  rintro e w1 ⟨v1, rfl, ho1, hb1⟩
  obtain ⟨A1, c1, rfl⟩ := Kd.N_slice ho1
  have HO1 := Aside0.mk ho1
  have HB1 := Aside0.mk hb1
  clear ho1 hb1
  go_wp2_with fail
  refine (found43.calls A1 c1 compatT a0 w1 (Kd.N_reads' HO1.out).2.2 compatT_len).mono ?_
  rintro e w2 ⟨A2, c2, rfl, hr2, hc2, hb2⟩
  have HO2 := Aside0.mk hr2
  have HC2 := Aside0.mk hc2
  have HB2 := Aside0.mk hb2
  clear hr2 hc2 hb2
  go_wp2_with fail
  refine (slices_Clone_int_int.calls A2 c2 (look43 compatT a0) _ w2 HO2.out HC2.out (clone_some _ (look_len43 1000 compatT a0 compatT_all))).mono ?_
  rintro e w3 ⟨v3, rfl, ho3, hb3⟩
  have HO3 := Aside0.mk ho3
  have HB3 := Aside0.mk hb3
  clear ho3 hb3
  go_wp2
  go_ret
  have z1 := HB1.out.size
  have z2 := HB2.out.size
  exact ⟨_, rfl, by rw [← HE.out]; exact Kd.R_lower HO3.out (by omega), (HB1.out.trans (HB2.out.mono z1)).trans (HB3.out.mono (by omega))⟩

set_option maxRecDepth 100000 in
set_option maxHeartbeats 2000000 in
theorem ucd_Fold.calls (a0 : Int) (r : List Int) (w : World) (h : ucd_Fold.f a0 = some r) :
    Calls Try.prog 27 #[.int .i64 a0] w fun e w' => ∃ v0_ : Value, e = .returned (v0_) ∧ Kd.R (Kd.int .i64) 3 w' w.heap.size (fun _ => True) v0_ r ∧ Below w.heap.size w w' := by
  have HE := Aside0.mk (Option.some.inj h)
  clear h
  go_enter Try.func27, Try.ntmps27
  go_wp2_with fail
  refine (api_Folds.calls 300 foldsT _ foldsT_eq).mono ?_
  rintro e w1 ⟨v1, rfl, ho1, hb1⟩
  obtain ⟨A1, c1, rfl⟩ := Kd.N_slice ho1
  have HO1 := Aside0.mk ho1
  have HB1 := Aside0.mk hb1
  clear ho1 hb1
  go_wp2_with fail
  refine (found43.calls A1 c1 foldsT a0 w1 (Kd.N_reads' HO1.out).2.2 foldsT_len).mono ?_
  rintro e w2 ⟨A2, c2, rfl, hr2, hc2, hb2⟩
  have HO2 := Aside0.mk hr2
  have HC2 := Aside0.mk hc2
  have HB2 := Aside0.mk hb2
  clear hr2 hc2 hb2
  go_wp2_with fail
  refine (slices_Clone_int_int.calls A2 c2 (look43 foldsT a0) _ w2 HO2.out HC2.out (clone_some _ (look_len43 1000 foldsT a0 foldsT_all))).mono ?_
  rintro e w3 ⟨v3, rfl, ho3, hb3⟩
  have HO3 := Aside0.mk ho3
  have HB3 := Aside0.mk hb3
  clear ho3 hb3
  go_wp2
  go_ret
  have z1 := HB1.out.size
  have z2 := HB2.out.size
  exact ⟨_, rfl, by rw [← HE.out]; exact Kd.R_lower HO3.out (by omega), (HB1.out.trans (HB2.out.mono z1)).trans (HB3.out.mono (by omega))⟩
end Go.Proofs.Ytimpcabimncnfaa.M
