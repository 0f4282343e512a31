-- Written by wip/prn.py of this session out of the translation (function by function); Lean checks it.
import Derived.Test.YtimpcabimncnfaaM0
import Derived.Test.YtimpcabimncnfaaHRun
import Derived.Test.YtimpcabimncnfaaHRunes
namespace Go.Proofs.Ytimpcabimncnfaa.M
open Go.RowKit Go.Proofs.YtimpcabimncnfaaW.PrintWords Go.Proofs.YtimpcabimncnfaaW.PrintLast Go.Proofs.YtimpcabimncnfaaW.PrintMore
attribute [local go_sem] max2_int min2_int max_two min_two max_three min_three max_four min_four   -- for this text's walks alone
set_option linter.unusedVariables false
set_option linter.unusedSimpArgs false

/-! ### sobriquetkeep_Ints: function 21 -/
def sobriquetkeep_Ints.l0 : Nat → List Int → List Int → Int → Option (Bool)
  | 0, _, _, _ => none
  | k + 1, x0, x1, x5 => if x5 < (x0.length : Int) then (if 0 ≤ x5 then (if x5 < (x1.length : Int) then (if (rd x0 x5) = (rd x1 x5) then (sobriquetkeep_Ints.l0 k x0 x1 (wrap64 (x5 + 1))) else (some false)) else (none)) else (none)) else (some true)
def sobriquetkeep_Ints.f (k : Nat) (l0 : List Int) (l1 : List Int) : Option (Bool) := if (l0.length : Int) = (l1.length : Int) then (sobriquetkeep_Ints.l0 k l0 l1 0) else (some false)
theorem sobriquetkeep_Ints.mono_l : ∀ k, (∀ y0 y1 y2, LeO (sobriquetkeep_Ints.l0 k y0 y1 y2) (sobriquetkeep_Ints.l0 (k + 1) y0 y1 y2))
  | 0 => fun _ _ _ r h => by simp [sobriquetkeep_Ints.l0] at h
  | k + 1 => by
    have ih0 := sobriquetkeep_Ints.mono_l k
    · intro y0 y1 y2
      unfold sobriquetkeep_Ints.l0
      repeat' first
      | (with_reducible exact ih0 _ _ _)
      | (with_reducible exact LeO.refl _)
      | (with_reducible exact LeO.none _)
      | (with_reducible refine LeO.ite ?_ ?_)
      | (with_reducible refine LeO.bind ?_ (fun _ => ?_))
      | exact ih0 _ _ _
      | exact LeO.none _
      | refine LeO.ite ?_ ?_
      | refine LeO.bind ?_ (fun _ => ?_)
theorem sobriquetkeep_Ints.mono : ∀ a0 a1 k, LeO (sobriquetkeep_Ints.f k a0 a1) (sobriquetkeep_Ints.f (k + 1) a0 a1) := by
  intro a0 a1 k
  have ih0 := sobriquetkeep_Ints.mono_l k
  unfold sobriquetkeep_Ints.f
  repeat' first
      | (with_reducible exact ih0 _ _ _)
      | (with_reducible exact LeO.refl _)
      | (with_reducible exact LeO.none _)
      | (with_reducible refine LeO.ite ?_ ?_)
      | (with_reducible refine LeO.bind ?_ (fun _ => ?_))
      | exact ih0 _ _ _
      | exact LeO.none _
      | refine LeO.ite ?_ ?_
      | refine LeO.bind ?_ (fun _ => ?_)
set_option maxHeartbeats 8000000 in
set_option maxRecDepth 100000 in
theorem sobriquetkeep_Ints.calls (k : Nat) (A0 : Option Addr) (c0 : Nat) (l0 : List Int) (A1 : Option Addr) (c1 : Nat) (l1 : List Int) (r : Bool) (w : World) (hr0 : Kd.C (Kd.int .i64) w A0 l0.length l0) (hc0 : l0.length ≤ c0) (hr1 : Kd.C (Kd.int .i64) w A1 l1.length l1) (hc1 : l1.length ≤ c1) (h : sobriquetkeep_Ints.f k l0 l1 = some r) :
    Calls Try.prog 21 #[.slice A0 l0.length c0, .slice A1 l1.length c1] w fun e w' => e = .returned (.bool r) ∧ Drawn0 w w' := by
  have HR0 := Aside0.mk hr0
  have HC0 := Aside0.mk hc0
  clear hr0 hc0
  have HR1 := Aside0.mk hr1
  have HC1 := Aside0.mk hc1
  clear hr1 hc1
  have H : (if (l0.length : Int) = (l1.length : Int) then (sobriquetkeep_Ints.l0 k l0 l1 0) else (some false)) = some r := h
  clear h
  by_cases c3 : (l0.length : Int) = (l1.length : Int)
  · rw [if_pos c3] at H
    have c3b0 : ((l0.length : Int) == (l1.length : Int)) = true := beq_iff_eq.mpr c3
    have c3b1 : ((l0.length : Int) != (l1.length : Int)) = false := bne_eq_false_iff_eq.mpr c3
    have c3b2 : (l0.length == l1.length) = true := by first | simpa using c3 | (simp at c3 ⊢; omega)
    clear c3
    have H' := Aside0.mk H
    clear H
    go_enter Try.func21, Try.ntmps21
    go_wp2
    repeat (go_quiet (fail); try go_wp2)
    go_loopg [5] k (fun kq v5 w' => ∃ (x5_1 : Int), v5 = .int .i64 x5_1 ∧ Aside0 (sobriquetkeep_Ints.l0 kq l0 l1 x5_1 = some r) ∧ Aside0 (kq ≤ k) ∧ Drawn0 w w')
    case atStart => exact ⟨(0), (by first | rfl | (simp; done) | (simp [*]; done)), H', ⟨Nat.le_refl _⟩, by repeat (first | exact Drawn0.refl _ | apply Drawn0.step)⟩
    case round =>
      clear H'
      try clear c1
      try clear c2
      try clear p2
      try clear c3
      try clear c3b0
      try clear c3b1
      try clear c3b2
      obtain ⟨x5_1, rfl, HA, HK1, ⟨m1, rfl⟩⟩ := hrel
      cases gk with
      | zero => exact absurd HA.out (by simp [sobriquetkeep_Ints.l0])
      | succ k1 =>
        have H := HA.out
        clear HA
        simp only [sobriquetkeep_Ints.l0] at H
        by_cases c4 : x5_1 < (l0.length : Int)
        · rw [if_pos c4] at H
          have c4b0 : decide (x5_1 < (l0.length : Int)) = true := decide_eq_true c4
          clear c4
          by_cases c5 : 0 ≤ x5_1
          · rw [if_pos c5] at H
            have c5b0 : decide (0 ≤ x5_1) = true := decide_eq_true c5
            clear c5
            by_cases c6 : x5_1 < (l1.length : Int)
            · rw [if_pos c6] at H
              have c6b0 : decide (x5_1 < (l1.length : Int)) = true := decide_eq_true c6
              clear c6
              by_cases c7 : (rd l0 x5_1) = (rd l1 x5_1)
              · rw [if_pos c7] at H
                have c7b0 : ((rd l0 x5_1) == (rd l1 x5_1)) = true := beq_iff_eq.mpr c7
                have c7b1 : ((rd l0 x5_1) != (rd l1 x5_1)) = false := bne_eq_false_iff_eq.mpr c7
                clear c7
                have H' := Aside0.mk H
                clear H
                have p161 : 0 ≤ (x5_1 : Int) := of_decide_eq_true (by first | (with_reducible assumption) | assumption)
                have q161 : x5_1 < (l0.length : Int) := of_decide_eq_true (by first | (with_reducible assumption) | assumption)
                obtain ⟨ad161, e161, hx161_0⟩ := Kd.at_int HR0.out x5_1 p161 q161
                cases e161
                replace p161 := eq_true p161
                replace q161 := eq_true q161
                have p162 : 0 ≤ (x5_1 : Int) := of_decide_eq_true (by first | (with_reducible assumption) | assumption)
                have q162 : x5_1 < (l1.length : Int) := of_decide_eq_true (by first | (with_reducible assumption) | assumption)
                obtain ⟨ad162, e162, hx162_0⟩ := Kd.at_int HR1.out x5_1 p162 q162
                cases e162
                replace p162 := eq_true p162
                replace q162 := eq_true q162
                go_wp2
                repeat (go_quiet (fail); try go_wp2)
                go_roundg k1
                case measure => have := HK1.out; omega
                case rel => exact ⟨(wrap64 (x5_1 + 1)), (by first | rfl | (simp; done) | (simp [*]; done)), H', ⟨by have := HK1.out; omega⟩, by repeat (first | exact Drawn0.refl _ | apply Drawn0.step)⟩
              · rw [if_neg c7] at H
                have c7b0 : ((rd l0 x5_1) == (rd l1 x5_1)) = false := beq_eq_false_iff_ne.mpr c7
                have c7b1 : ((rd l0 x5_1) != (rd l1 x5_1)) = true := bne_iff_ne.mpr c7
                obtain rfl := Option.some.inj H
                have p161 : 0 ≤ (x5_1 : Int) := of_decide_eq_true (by first | (with_reducible assumption) | assumption)
                have q161 : x5_1 < (l0.length : Int) := of_decide_eq_true (by first | (with_reducible assumption) | assumption)
                obtain ⟨ad161, e161, hx161_0⟩ := Kd.at_int HR0.out x5_1 p161 q161
                cases e161
                replace p161 := eq_true p161
                replace q161 := eq_true q161
                have p162 : 0 ≤ (x5_1 : Int) := of_decide_eq_true (by first | (with_reducible assumption) | assumption)
                have q162 : x5_1 < (l1.length : Int) := of_decide_eq_true (by first | (with_reducible assumption) | assumption)
                obtain ⟨ad162, e162, hx162_0⟩ := Kd.at_int HR1.out x5_1 p162 q162
                cases e162
                replace p162 := eq_true p162
                replace q162 := eq_true q162
                go_wp2
                repeat (go_quiet (fail); try go_wp2)
                go_ret
                exact ⟨by first | rfl | (simp; done) | (simp [*]; done), by repeat (first | exact Drawn0.refl _ | apply Drawn0.step)⟩
            · rw [if_neg c6] at H
              exact absurd H (by simp)
          · rw [if_neg c5] at H
            exact absurd H (by simp)
        · rw [if_neg c4] at H
          have c4b0 : decide (x5_1 < (l0.length : Int)) = false := decide_eq_false c4
          clear c4
          obtain rfl := Option.some.inj H
          go_wp2
          repeat (go_quiet (fail); try go_wp2)
          go_ret
          exact ⟨by first | rfl | (simp; done) | (simp [*]; done), by repeat (first | exact Drawn0.refl _ | apply Drawn0.step)⟩
  · rw [if_neg c3] at H
    have c3b0 : ((l0.length : Int) == (l1.length : Int)) = false := beq_eq_false_iff_ne.mpr c3
    have c3b1 : ((l0.length : Int) != (l1.length : Int)) = true := bne_iff_ne.mpr c3
    have c3b2 : (l0.length == l1.length) = false := by first | simpa using c3 | (simp at c3 ⊢; omega)
    obtain rfl := Option.some.inj H
    go_enter Try.func21, Try.ntmps21
    go_wp2
    repeat (go_quiet (fail); try go_wp2)
    go_ret
    exact ⟨by first | rfl | (simp; done) | (simp [*]; done), by repeat (first | exact Drawn0.refl _ | apply Drawn0.step)⟩

/-! ### api_Folds: function 26 -/
def api_Folds.lit : List (S43) := ([(⟨181, [956]⟩ : S43), (⟨223, [115, 115]⟩ : S43), (⟨304, [105, 775]⟩ : S43), (⟨329, [700, 110]⟩ : S43), (⟨383, [115]⟩ : S43), (⟨8482, [116, 109]⟩ : S43), (⟨8486, [969]⟩ : S43), (⟨8490, [107]⟩ : S43), (⟨8491, [229]⟩ : S43), (⟨8544, [8560]⟩ : S43), (⟨8545, [8561]⟩ : S43), (⟨8548, [8564]⟩ : S43), (⟨962, [963]⟩ : S43), (⟨64256, [102, 102]⟩ : S43), (⟨64257, [102, 105]⟩ : S43), (⟨64258, [102, 108]⟩ : S43), (⟨64259, [102, 102, 105]⟩ : S43), (⟨64261, [115, 116]⟩ : S43), (⟨64262, [115, 116]⟩ : S43)] : List (S43))
mutual
def api_Folds.l0 : Nat → List (S43) → List Int → List Int → Int → Int → Option ((List (S43)))
  | 0, _, _, _, _, _ => none
  | k + 1, x1, x2, x3, x48, x49 => if x49 < x48 then (if 0 ≤ x49 then (if x49 < (x2.length : Int) then (if x49 < (x3.length : Int) then (if x1.length < 4398046511104 then (api_Folds.l0 k (x1 ++ [(⟨rd x2 x49, (([rd x3 x49] : List Int))⟩ : S43)]) x2 x3 x48 (wrap64 (x49 + 1))) else (none)) else (none)) else (none)) else (none)) else (api_Folds.l1 k x1 65313)
def api_Folds.l1 : Nat → List (S43) → Int → Option ((List (S43)))
  | 0, _, _ => none
  | k + 1, x1, x5 => if x5 ≤ 65338 then (if x1.length < 4398046511104 then (api_Folds.l1 k (x1 ++ [(⟨x5, (([wrap64 (x5 + 32)] : List Int))⟩ : S43)]) (wrap64 (x5 + 1))) else (none)) else (some x1)
end
def api_Folds.f (k : Nat)  : Option ((List (S43))) := (api_runes.f (⟨#[65, 66, 67, 68, 69, 70, 71, 72, 73, 74, 75, 76, 77, 78, 79, 80, 81, 82, 83, 84, 85, 86, 87, 88, 89, 90, 195, 128, 195, 129, 195, 130, 195, 131, 195, 132, 195, 133, 195, 134, 195, 135, 195, 136, 195, 137, 195, 138, 195, 139, 195, 140, 195, 141, 195, 142, 195, 143, 195, 144, 195, 145, 195, 146, 195, 147, 195, 148, 195, 149, 195, 150, 195, 152, 195, 153, 195, 154, 195, 155, 195, 156, 195, 157, 195, 158, 196, 128, 196, 130, 196, 132, 196, 134, 196, 136, 196, 138, 196, 140, 196, 142, 196, 144, 196, 146, 196, 148, 196, 150, 196, 152, 196, 154, 196, 156, 196, 158, 196, 160, 196, 162, 196, 164, 196, 166, 196, 168, 196, 170, 196, 172, 196, 174, 196, 178, 196, 180, 196, 182, 196, 185, 196, 187, 196, 189, 196, 191, 197, 129, 197, 131, 197, 133, 197, 135, 197, 138, 197, 140, 197, 142, 197, 144, 197, 146, 197, 148, 197, 150, 197, 152, 197, 154, 197, 156, 197, 158, 197, 160, 197, 162, 197, 164, 197, 166, 197, 168, 197, 170, 197, 172, 197, 174, 197, 176, 197, 178, 197, 180, 197, 182, 197, 184, 197, 185, 197, 187, 197, 189, 199, 184, 225, 186, 128, 225, 187, 178, 225, 186, 160, 225, 186, 184, 225, 187, 138, 225, 187, 140, 225, 187, 164, 225, 186, 164, 225, 186, 190, 225, 187, 144, 225, 186, 166, 225, 187, 128, 225, 187, 146, 225, 186, 172, 225, 187, 134, 225, 187, 152, 206, 145, 206, 146, 206, 147, 206, 148, 206, 149, 206, 150, 206, 151, 206, 152, 206, 153, 206, 154, 206, 155, 206, 156, 206, 157, 206, 158, 206, 159, 206, 160, 206, 161, 206, 163, 206, 164, 206, 165, 206, 166, 206, 167, 206, 168, 206, 169, 206, 134, 206, 136, 206, 137, 206, 138, 206, 140, 206, 142, 206, 143, 206, 170, 206, 171, 208, 144, 208, 145, 208, 146, 208, 147, 208, 148, 208, 149, 208, 150, 208, 151, 208, 152, 208, 153, 208, 154, 208, 155, 208, 156, 208, 157, 208, 158, 208, 159, 208, 160, 208, 161, 208, 162, 208, 163, 208, 164, 208, 165, 208, 166, 208, 167, 208, 168, 208, 169, 208, 170, 208, 171, 208, 172, 208, 173, 208, 174, 208, 175, 208, 128, 208, 129, 208, 130, 208, 131, 208, 132, 208, 133, 208, 134, 208, 135, 208, 136, 208, 137, 208, 138, 208, 139, 208, 140, 208, 141, 208, 142, 208, 143]⟩ : ByteArray)).bind fun t166 => ((api_runes.f (⟨#[97, 98, 99, 100, 101, 102, 103, 104, 105, 106, 107, 108, 109, 110, 111, 112, 113, 114, 115, 116, 117, 118, 119, 120, 121, 122, 195, 160, 195, 161, 195, 162, 195, 163, 195, 164, 195, 165, 195, 166, 195, 167, 195, 168, 195, 169, 195, 170, 195, 171, 195, 172, 195, 173, 195, 174, 195, 175, 195, 176, 195, 177, 195, 178, 195, 179, 195, 180, 195, 181, 195, 182, 195, 184, 195, 185, 195, 186, 195, 187, 195, 188, 195, 189, 195, 190, 196, 129, 196, 131, 196, 133, 196, 135, 196, 137, 196, 139, 196, 141, 196, 143, 196, 145, 196, 147, 196, 149, 196, 151, 196, 153, 196, 155, 196, 157, 196, 159, 196, 161, 196, 163, 196, 165, 196, 167, 196, 169, 196, 171, 196, 173, 196, 175, 196, 179, 196, 181, 196, 183, 196, 186, 196, 188, 196, 190, 197, 128, 197, 130, 197, 132, 197, 134, 197, 136, 197, 139, 197, 141, 197, 143, 197, 145, 197, 147, 197, 149, 197, 151, 197, 153, 197, 155, 197, 157, 197, 159, 197, 161, 197, 163, 197, 165, 197, 167, 197, 169, 197, 171, 197, 173, 197, 175, 197, 177, 197, 179, 197, 181, 197, 183, 195, 191, 197, 186, 197, 188, 197, 190, 199, 185, 225, 186, 129, 225, 187, 179, 225, 186, 161, 225, 186, 185, 225, 187, 139, 225, 187, 141, 225, 187, 165, 225, 186, 165, 225, 186, 191, 225, 187, 145, 225, 186, 167, 225, 187, 129, 225, 187, 147, 225, 186, 173, 225, 187, 135, 225, 187, 153, 206, 177, 206, 178, 206, 179, 206, 180, 206, 181, 206, 182, 206, 183, 206, 184, 206, 185, 206, 186, 206, 187, 206, 188, 206, 189, 206, 190, 206, 191, 207, 128, 207, 129, 207, 131, 207, 132, 207, 133, 207, 134, 207, 135, 207, 136, 207, 137, 206, 172, 206, 173, 206, 174, 206, 175, 207, 140, 207, 141, 207, 142, 207, 138, 207, 139, 208, 176, 208, 177, 208, 178, 208, 179, 208, 180, 208, 181, 208, 182, 208, 183, 208, 184, 208, 185, 208, 186, 208, 187, 208, 188, 208, 189, 208, 190, 208, 191, 209, 128, 209, 129, 209, 130, 209, 131, 209, 132, 209, 133, 209, 134, 209, 135, 209, 136, 209, 137, 209, 138, 209, 139, 209, 140, 209, 141, 209, 142, 209, 143, 209, 144, 209, 145, 209, 146, 209, 147, 209, 148, 209, 149, 209, 150, 209, 151, 209, 152, 209, 153, 209, 154, 209, 155, 209, 156, 209, 157, 209, 158, 209, 159]⟩ : ByteArray)).bind fun t169 => (api_Folds.l0 k (api_Folds.lit) t166 t169 (t166.length : Int) 0))
theorem api_Folds.mono_l : ∀ k, (∀ y0 y1 y2 y3 y4, LeO (api_Folds.l0 k y0 y1 y2 y3 y4) (api_Folds.l0 (k + 1) y0 y1 y2 y3 y4)) ∧ (∀ y0 y1, LeO (api_Folds.l1 k y0 y1) (api_Folds.l1 (k + 1) y0 y1))
  | 0 => ⟨fun _ _ _ _ _ r h => by simp [api_Folds.l0] at h, fun _ _ r h => by simp [api_Folds.l1] at h⟩
  | k + 1 => by
    obtain ⟨ih0, ih1⟩ := api_Folds.mono_l k
    refine ⟨?_, ?_⟩
    · intro y0 y1 y2 y3 y4
      unfold api_Folds.l0
      repeat' first
      | (with_reducible exact ih0 _ _ _ _ _)
      | (with_reducible exact ih1 _ _)
      | (with_reducible exact LeO.refl _)
      | (with_reducible exact LeO.none _)
      | (with_reducible refine LeO.ite ?_ ?_)
      | (with_reducible refine LeO.bind ?_ (fun _ => ?_))
      | exact ih0 _ _ _ _ _
      | exact ih1 _ _
      | exact LeO.none _
      | refine LeO.ite ?_ ?_
      | refine LeO.bind ?_ (fun _ => ?_)
    · intro y0 y1
      unfold api_Folds.l1
      repeat' first
      | (with_reducible exact ih0 _ _ _ _ _)
      | (with_reducible exact ih1 _ _)
      | (with_reducible exact LeO.refl _)
      | (with_reducible exact LeO.none _)
      | (with_reducible refine LeO.ite ?_ ?_)
      | (with_reducible refine LeO.bind ?_ (fun _ => ?_))
      | exact ih0 _ _ _ _ _
      | exact ih1 _ _
      | exact LeO.none _
      | refine LeO.ite ?_ ?_
      | refine LeO.bind ?_ (fun _ => ?_)
theorem api_Folds.mono : ∀ k, LeO (api_Folds.f k ) (api_Folds.f (k + 1) ) := by
  intro  k
  obtain ⟨ih0, ih1⟩ := api_Folds.mono_l k
  unfold api_Folds.f
  repeat' first
      | (with_reducible exact ih0 _ _ _ _ _)
      | (with_reducible exact ih1 _ _)
      | (with_reducible exact LeO.refl _)
      | (with_reducible exact LeO.none _)
      | (with_reducible refine LeO.ite ?_ ?_)
      | (with_reducible refine LeO.bind ?_ (fun _ => ?_))
      | exact ih0 _ _ _ _ _
      | exact ih1 _ _
      | exact LeO.none _
      | refine LeO.ite ?_ ?_
      | refine LeO.bind ?_ (fun _ => ?_)
def api_Folds.T7 : Bool × List (List Nat × List Nat) := (true, [([], []), ([], []), ([], []), ([1, 2], [1, 2]), ([3], [3]), ([], []), ([], []), ([5, 6], [5, 6]), ([7], [7]), ([8], [8]), ([4, 9], [4, 9]), ([10], [10]), ([0, 11], [0, 11]), ([12, 12, 0, 1, 2, 3, 4, 5, 6, 7, 8, 9, 10, 11, 12], [0, 12])])
def api_Folds.B7 : List Nat := [0, 0, 0, 6, 14, 0, 0, 96, 224, 480, 1022, 2046, 4095, 8191]
theorem api_Folds.tab7 : rtab .any (opsOf Try.f26 7) = api_Folds.T7 := by kernel_rfl
theorem api_Folds.bits7 : waitsOk api_Folds.T7.2 api_Folds.B7 = true := by kernel_rfl
set_option maxHeartbeats 8000000 in
set_option maxRecDepth 100000 in
theorem api_Folds.calls (k : Nat)  (r : List (S43)) (w : World) (h : api_Folds.f k  = some r) :
    Calls Try.prog 26 #[] w fun e w' => ∃ v0_ : Value, e = .returned (v0_) ∧ Kd.N k43 43 w' w.heap.size (fun k_ => (w.heap.size ≤ k_)) v0_ r ∧ Below w.heap.size w w' := by
  have hu43 := Try.underlying43
  have HB := Aside0.mk (Below.refl w.heap.size w)
  have H : ((api_runes.f (⟨#[65, 66, 67, 68, 69, 70, 71, 72, 73, 74, 75, 76, 77, 78, 79, 80, 81, 82, 83, 84, 85, 86, 87, 88, 89, 90, 195, 128, 195, 129, 195, 130, 195, 131, 195, 132, 195, 133, 195, 134, 195, 135, 195, 136, 195, 137, 195, 138, 195, 139, 195, 140, 195, 141, 195, 142, 195, 143, 195, 144, 195, 145, 195, 146, 195, 147, 195, 148, 195, 149, 195, 150, 195, 152, 195, 153, 195, 154, 195, 155, 195, 156, 195, 157, 195, 158, 196, 128, 196, 130, 196, 132, 196, 134, 196, 136, 196, 138, 196, 140, 196, 142, 196, 144, 196, 146, 196, 148, 196, 150, 196, 152, 196, 154, 196, 156, 196, 158, 196, 160, 196, 162, 196, 164, 196, 166, 196, 168, 196, 170, 196, 172, 196, 174, 196, 178, 196, 180, 196, 182, 196, 185, 196, 187, 196, 189, 196, 191, 197, 129, 197, 131, 197, 133, 197, 135, 197, 138, 197, 140, 197, 142, 197, 144, 197, 146, 197, 148, 197, 150, 197, 152, 197, 154, 197, 156, 197, 158, 197, 160, 197, 162, 197, 164, 197, 166, 197, 168, 197, 170, 197, 172, 197, 174, 197, 176, 197, 178, 197, 180, 197, 182, 197, 184, 197, 185, 197, 187, 197, 189, 199, 184, 225, 186, 128, 225, 187, 178, 225, 186, 160, 225, 186, 184, 225, 187, 138, 225, 187, 140, 225, 187, 164, 225, 186, 164, 225, 186, 190, 225, 187, 144, 225, 186, 166, 225, 187, 128, 225, 187, 146, 225, 186, 172, 225, 187, 134, 225, 187, 152, 206, 145, 206, 146, 206, 147, 206, 148, 206, 149, 206, 150, 206, 151, 206, 152, 206, 153, 206, 154, 206, 155, 206, 156, 206, 157, 206, 158, 206, 159, 206, 160, 206, 161, 206, 163, 206, 164, 206, 165, 206, 166, 206, 167, 206, 168, 206, 169, 206, 134, 206, 136, 206, 137, 206, 138, 206, 140, 206, 142, 206, 143, 206, 170, 206, 171, 208, 144, 208, 145, 208, 146, 208, 147, 208, 148, 208, 149, 208, 150, 208, 151, 208, 152, 208, 153, 208, 154, 208, 155, 208, 156, 208, 157, 208, 158, 208, 159, 208, 160, 208, 161, 208, 162, 208, 163, 208, 164, 208, 165, 208, 166, 208, 167, 208, 168, 208, 169, 208, 170, 208, 171, 208, 172, 208, 173, 208, 174, 208, 175, 208, 128, 208, 129, 208, 130, 208, 131, 208, 132, 208, 133, 208, 134, 208, 135, 208, 136, 208, 137, 208, 138, 208, 139, 208, 140, 208, 141, 208, 142, 208, 143]⟩ : ByteArray)).bind fun t166 => ((api_runes.f (⟨#[97, 98, 99, 100, 101, 102, 103, 104, 105, 106, 107, 108, 109, 110, 111, 112, 113, 114, 115, 116, 117, 118, 119, 120, 121, 122, 195, 160, 195, 161, 195, 162, 195, 163, 195, 164, 195, 165, 195, 166, 195, 167, 195, 168, 195, 169, 195, 170, 195, 171, 195, 172, 195, 173, 195, 174, 195, 175, 195, 176, 195, 177, 195, 178, 195, 179, 195, 180, 195, 181, 195, 182, 195, 184, 195, 185, 195, 186, 195, 187, 195, 188, 195, 189, 195, 190, 196, 129, 196, 131, 196, 133, 196, 135, 196, 137, 196, 139, 196, 141, 196, 143, 196, 145, 196, 147, 196, 149, 196, 151, 196, 153, 196, 155, 196, 157, 196, 159, 196, 161, 196, 163, 196, 165, 196, 167, 196, 169, 196, 171, 196, 173, 196, 175, 196, 179, 196, 181, 196, 183, 196, 186, 196, 188, 196, 190, 197, 128, 197, 130, 197, 132, 197, 134, 197, 136, 197, 139, 197, 141, 197, 143, 197, 145, 197, 147, 197, 149, 197, 151, 197, 153, 197, 155, 197, 157, 197, 159, 197, 161, 197, 163, 197, 165, 197, 167, 197, 169, 197, 171, 197, 173, 197, 175, 197, 177, 197, 179, 197, 181, 197, 183, 195, 191, 197, 186, 197, 188, 197, 190, 199, 185, 225, 186, 129, 225, 187, 179, 225, 186, 161, 225, 186, 185, 225, 187, 139, 225, 187, 141, 225, 187, 165, 225, 186, 165, 225, 186, 191, 225, 187, 145, 225, 186, 167, 225, 187, 129, 225, 187, 147, 225, 186, 173, 225, 187, 135, 225, 187, 153, 206, 177, 206, 178, 206, 179, 206, 180, 206, 181, 206, 182, 206, 183, 206, 184, 206, 185, 206, 186, 206, 187, 206, 188, 206, 189, 206, 190, 206, 191, 207, 128, 207, 129, 207, 131, 207, 132, 207, 133, 207, 134, 207, 135, 207, 136, 207, 137, 206, 172, 206, 173, 206, 174, 206, 175, 207, 140, 207, 141, 207, 142, 207, 138, 207, 139, 208, 176, 208, 177, 208, 178, 208, 179, 208, 180, 208, 181, 208, 182, 208, 183, 208, 184, 208, 185, 208, 186, 208, 187, 208, 188, 208, 189, 208, 190, 208, 191, 209, 128, 209, 129, 209, 130, 209, 131, 209, 132, 209, 133, 209, 134, 209, 135, 209, 136, 209, 137, 209, 138, 209, 139, 209, 140, 209, 141, 209, 142, 209, 143, 209, 144, 209, 145, 209, 146, 209, 147, 209, 148, 209, 149, 209, 150, 209, 151, 209, 152, 209, 153, 209, 154, 209, 155, 209, 156, 209, 157, 209, 158, 209, 159]⟩ : ByteArray)).bind fun t169 => (api_Folds.l0 k (api_Folds.lit) t166 t169 (t166.length : Int) 0))) = some r := h
  clear h
  obtain ⟨y163, hy163⟩ : ∃ y_ : List (S43), y_ = (api_Folds.lit) := ⟨_, rfl⟩
  replace H : ((api_runes.f (⟨#[65, 66, 67, 68, 69, 70, 71, 72, 73, 74, 75, 76, 77, 78, 79, 80, 81, 82, 83, 84, 85, 86, 87, 88, 89, 90, 195, 128, 195, 129, 195, 130, 195, 131, 195, 132, 195, 133, 195, 134, 195, 135, 195, 136, 195, 137, 195, 138, 195, 139, 195, 140, 195, 141, 195, 142, 195, 143, 195, 144, 195, 145, 195, 146, 195, 147, 195, 148, 195, 149, 195, 150, 195, 152, 195, 153, 195, 154, 195, 155, 195, 156, 195, 157, 195, 158, 196, 128, 196, 130, 196, 132, 196, 134, 196, 136, 196, 138, 196, 140, 196, 142, 196, 144, 196, 146, 196, 148, 196, 150, 196, 152, 196, 154, 196, 156, 196, 158, 196, 160, 196, 162, 196, 164, 196, 166, 196, 168, 196, 170, 196, 172, 196, 174, 196, 178, 196, 180, 196, 182, 196, 185, 196, 187, 196, 189, 196, 191, 197, 129, 197, 131, 197, 133, 197, 135, 197, 138, 197, 140, 197, 142, 197, 144, 197, 146, 197, 148, 197, 150, 197, 152, 197, 154, 197, 156, 197, 158, 197, 160, 197, 162, 197, 164, 197, 166, 197, 168, 197, 170, 197, 172, 197, 174, 197, 176, 197, 178, 197, 180, 197, 182, 197, 184, 197, 185, 197, 187, 197, 189, 199, 184, 225, 186, 128, 225, 187, 178, 225, 186, 160, 225, 186, 184, 225, 187, 138, 225, 187, 140, 225, 187, 164, 225, 186, 164, 225, 186, 190, 225, 187, 144, 225, 186, 166, 225, 187, 128, 225, 187, 146, 225, 186, 172, 225, 187, 134, 225, 187, 152, 206, 145, 206, 146, 206, 147, 206, 148, 206, 149, 206, 150, 206, 151, 206, 152, 206, 153, 206, 154, 206, 155, 206, 156, 206, 157, 206, 158, 206, 159, 206, 160, 206, 161, 206, 163, 206, 164, 206, 165, 206, 166, 206, 167, 206, 168, 206, 169, 206, 134, 206, 136, 206, 137, 206, 138, 206, 140, 206, 142, 206, 143, 206, 170, 206, 171, 208, 144, 208, 145, 208, 146, 208, 147, 208, 148, 208, 149, 208, 150, 208, 151, 208, 152, 208, 153, 208, 154, 208, 155, 208, 156, 208, 157, 208, 158, 208, 159, 208, 160, 208, 161, 208, 162, 208, 163, 208, 164, 208, 165, 208, 166, 208, 167, 208, 168, 208, 169, 208, 170, 208, 171, 208, 172, 208, 173, 208, 174, 208, 175, 208, 128, 208, 129, 208, 130, 208, 131, 208, 132, 208, 133, 208, 134, 208, 135, 208, 136, 208, 137, 208, 138, 208, 139, 208, 140, 208, 141, 208, 142, 208, 143]⟩ : ByteArray)).bind fun t166 => ((api_runes.f (⟨#[97, 98, 99, 100, 101, 102, 103, 104, 105, 106, 107, 108, 109, 110, 111, 112, 113, 114, 115, 116, 117, 118, 119, 120, 121, 122, 195, 160, 195, 161, 195, 162, 195, 163, 195, 164, 195, 165, 195, 166, 195, 167, 195, 168, 195, 169, 195, 170, 195, 171, 195, 172, 195, 173, 195, 174, 195, 175, 195, 176, 195, 177, 195, 178, 195, 179, 195, 180, 195, 181, 195, 182, 195, 184, 195, 185, 195, 186, 195, 187, 195, 188, 195, 189, 195, 190, 196, 129, 196, 131, 196, 133, 196, 135, 196, 137, 196, 139, 196, 141, 196, 143, 196, 145, 196, 147, 196, 149, 196, 151, 196, 153, 196, 155, 196, 157, 196, 159, 196, 161, 196, 163, 196, 165, 196, 167, 196, 169, 196, 171, 196, 173, 196, 175, 196, 179, 196, 181, 196, 183, 196, 186, 196, 188, 196, 190, 197, 128, 197, 130, 197, 132, 197, 134, 197, 136, 197, 139, 197, 141, 197, 143, 197, 145, 197, 147, 197, 149, 197, 151, 197, 153, 197, 155, 197, 157, 197, 159, 197, 161, 197, 163, 197, 165, 197, 167, 197, 169, 197, 171, 197, 173, 197, 175, 197, 177, 197, 179, 197, 181, 197, 183, 195, 191, 197, 186, 197, 188, 197, 190, 199, 185, 225, 186, 129, 225, 187, 179, 225, 186, 161, 225, 186, 185, 225, 187, 139, 225, 187, 141, 225, 187, 165, 225, 186, 165, 225, 186, 191, 225, 187, 145, 225, 186, 167, 225, 187, 129, 225, 187, 147, 225, 186, 173, 225, 187, 135, 225, 187, 153, 206, 177, 206, 178, 206, 179, 206, 180, 206, 181, 206, 182, 206, 183, 206, 184, 206, 185, 206, 186, 206, 187, 206, 188, 206, 189, 206, 190, 206, 191, 207, 128, 207, 129, 207, 131, 207, 132, 207, 133, 207, 134, 207, 135, 207, 136, 207, 137, 206, 172, 206, 173, 206, 174, 206, 175, 207, 140, 207, 141, 207, 142, 207, 138, 207, 139, 208, 176, 208, 177, 208, 178, 208, 179, 208, 180, 208, 181, 208, 182, 208, 183, 208, 184, 208, 185, 208, 186, 208, 187, 208, 188, 208, 189, 208, 190, 208, 191, 209, 128, 209, 129, 209, 130, 209, 131, 209, 132, 209, 133, 209, 134, 209, 135, 209, 136, 209, 137, 209, 138, 209, 139, 209, 140, 209, 141, 209, 142, 209, 143, 209, 144, 209, 145, 209, 146, 209, 147, 209, 148, 209, 149, 209, 150, 209, 151, 209, 152, 209, 153, 209, 154, 209, 155, 209, 156, 209, 157, 209, 158, 209, 159]⟩ : ByteArray)).bind fun t169 => (api_Folds.l0 k y163 t166 t169 (t166.length : Int) 0))) = some r := by first | (rw [hy163]; with_reducible exact H) | (have H2_ := (Option.bind_some _ _).symm.trans H; rw [hy163]; with_reducible exact H2_) | (have H2_ := (Option.bind_some _ _).symm.trans H; with_reducible exact H2_) | with_reducible exact H | (rw [hy163]; exact H) | exact H
  have Ny163 := Aside0.mk hy163
  clear hy163
  replace H := Option.bind_eq_some_iff.mp H
  obtain ⟨t166, A10, H⟩ := H
  replace H : ((api_runes.f (⟨#[97, 98, 99, 100, 101, 102, 103, 104, 105, 106, 107, 108, 109, 110, 111, 112, 113, 114, 115, 116, 117, 118, 119, 120, 121, 122, 195, 160, 195, 161, 195, 162, 195, 163, 195, 164, 195, 165, 195, 166, 195, 167, 195, 168, 195, 169, 195, 170, 195, 171, 195, 172, 195, 173, 195, 174, 195, 175, 195, 176, 195, 177, 195, 178, 195, 179, 195, 180, 195, 181, 195, 182, 195, 184, 195, 185, 195, 186, 195, 187, 195, 188, 195, 189, 195, 190, 196, 129, 196, 131, 196, 133, 196, 135, 196, 137, 196, 139, 196, 141, 196, 143, 196, 145, 196, 147, 196, 149, 196, 151, 196, 153, 196, 155, 196, 157, 196, 159, 196, 161, 196, 163, 196, 165, 196, 167, 196, 169, 196, 171, 196, 173, 196, 175, 196, 179, 196, 181, 196, 183, 196, 186, 196, 188, 196, 190, 197, 128, 197, 130, 197, 132, 197, 134, 197, 136, 197, 139, 197, 141, 197, 143, 197, 145, 197, 147, 197, 149, 197, 151, 197, 153, 197, 155, 197, 157, 197, 159, 197, 161, 197, 163, 197, 165, 197, 167, 197, 169, 197, 171, 197, 173, 197, 175, 197, 177, 197, 179, 197, 181, 197, 183, 195, 191, 197, 186, 197, 188, 197, 190, 199, 185, 225, 186, 129, 225, 187, 179, 225, 186, 161, 225, 186, 185, 225, 187, 139, 225, 187, 141, 225, 187, 165, 225, 186, 165, 225, 186, 191, 225, 187, 145, 225, 186, 167, 225, 187, 129, 225, 187, 147, 225, 186, 173, 225, 187, 135, 225, 187, 153, 206, 177, 206, 178, 206, 179, 206, 180, 206, 181, 206, 182, 206, 183, 206, 184, 206, 185, 206, 186, 206, 187, 206, 188, 206, 189, 206, 190, 206, 191, 207, 128, 207, 129, 207, 131, 207, 132, 207, 133, 207, 134, 207, 135, 207, 136, 207, 137, 206, 172, 206, 173, 206, 174, 206, 175, 207, 140, 207, 141, 207, 142, 207, 138, 207, 139, 208, 176, 208, 177, 208, 178, 208, 179, 208, 180, 208, 181, 208, 182, 208, 183, 208, 184, 208, 185, 208, 186, 208, 187, 208, 188, 208, 189, 208, 190, 208, 191, 209, 128, 209, 129, 209, 130, 209, 131, 209, 132, 209, 133, 209, 134, 209, 135, 209, 136, 209, 137, 209, 138, 209, 139, 209, 140, 209, 141, 209, 142, 209, 143, 209, 144, 209, 145, 209, 146, 209, 147, 209, 148, 209, 149, 209, 150, 209, 151, 209, 152, 209, 153, 209, 154, 209, 155, 209, 156, 209, 157, 209, 158, 209, 159]⟩ : ByteArray)).bind fun t169 => (api_Folds.l0 k y163 t166 t169 (t166.length : Int) 0)) = some r := H
  have A1 := Aside0.mk A10
  clear A10
  replace H := Option.bind_eq_some_iff.mp H
  obtain ⟨t169, A20, H⟩ := H
  replace H : (api_Folds.l0 k y163 t166 t169 (t166.length : Int) 0) = some r := H
  have A2 := Aside0.mk A20
  clear A20
  have H' := Aside0.mk H
  clear H
  go_enter Try.func26, Try.ntmps26
  refine wp_seq_run (a' := { tmps := #[.slice none 0 0, undef, undef, undef, undef, undef, undef, undef, undef, undef, undef, undef, undef, undef, undef, undef, undef, undef, undef, undef, undef, undef, undef, undef, undef, undef, undef, undef, undef, undef, undef, undef, undef, undef, undef, undef, undef, undef, undef, undef, undef, undef, undef, undef, undef, undef, undef, undef, undef, undef, undef, undef, undef, undef, undef, undef, undef, undef, undef, undef, undef, undef, undef, undef, undef, undef, undef, undef, undef, undef, undef, undef, undef, undef, undef, undef, undef, undef, undef], defers := [] }) (w' := w) (by kernel_rfl) ?_
  refine litrun_N43 (fun v_l => { tmps := #[.slice none 0 0, v_l, undef, undef, undef, undef, .slice (some ⟨w.heap.size + 0, 0, none⟩) 1 1, .agg #[.int .i64 181, .slice (some ⟨w.heap.size + 0, 0, none⟩) 1 1], .slice (some ⟨w.heap.size + 1, 0, none⟩) 2 2, .agg #[.int .i64 223, .slice (some ⟨w.heap.size + 1, 0, none⟩) 2 2], .slice (some ⟨w.heap.size + 2, 0, none⟩) 2 2, .agg #[.int .i64 304, .slice (some ⟨w.heap.size + 2, 0, none⟩) 2 2], .slice (some ⟨w.heap.size + 3, 0, none⟩) 2 2, .agg #[.int .i64 329, .slice (some ⟨w.heap.size + 3, 0, none⟩) 2 2], .slice (some ⟨w.heap.size + 4, 0, none⟩) 1 1, .agg #[.int .i64 383, .slice (some ⟨w.heap.size + 4, 0, none⟩) 1 1], .slice (some ⟨w.heap.size + 5, 0, none⟩) 2 2, .agg #[.int .i64 8482, .slice (some ⟨w.heap.size + 5, 0, none⟩) 2 2], .slice (some ⟨w.heap.size + 6, 0, none⟩) 1 1, .agg #[.int .i64 8486, .slice (some ⟨w.heap.size + 6, 0, none⟩) 1 1], .slice (some ⟨w.heap.size + 7, 0, none⟩) 1 1, .agg #[.int .i64 8490, .slice (some ⟨w.heap.size + 7, 0, none⟩) 1 1], .slice (some ⟨w.heap.size + 8, 0, none⟩) 1 1, .agg #[.int .i64 8491, .slice (some ⟨w.heap.size + 8, 0, none⟩) 1 1], .slice (some ⟨w.heap.size + 9, 0, none⟩) 1 1, .agg #[.int .i64 8544, .slice (some ⟨w.heap.size + 9, 0, none⟩) 1 1], .slice (some ⟨w.heap.size + 10, 0, none⟩) 1 1, .agg #[.int .i64 8545, .slice (some ⟨w.heap.size + 10, 0, none⟩) 1 1], .slice (some ⟨w.heap.size + 11, 0, none⟩) 1 1, .agg #[.int .i64 8548, .slice (some ⟨w.heap.size + 11, 0, none⟩) 1 1], .slice (some ⟨w.heap.size + 12, 0, none⟩) 1 1, .agg #[.int .i64 962, .slice (some ⟨w.heap.size + 12, 0, none⟩) 1 1], .slice (some ⟨w.heap.size + 13, 0, none⟩) 2 2, .agg #[.int .i64 64256, .slice (some ⟨w.heap.size + 13, 0, none⟩) 2 2], .slice (some ⟨w.heap.size + 14, 0, none⟩) 2 2, .agg #[.int .i64 64257, .slice (some ⟨w.heap.size + 14, 0, none⟩) 2 2], .slice (some ⟨w.heap.size + 15, 0, none⟩) 2 2, .agg #[.int .i64 64258, .slice (some ⟨w.heap.size + 15, 0, none⟩) 2 2], .slice (some ⟨w.heap.size + 16, 0, none⟩) 3 3, .agg #[.int .i64 64259, .slice (some ⟨w.heap.size + 16, 0, none⟩) 3 3], .slice (some ⟨w.heap.size + 17, 0, none⟩) 2 2, .agg #[.int .i64 64261, .slice (some ⟨w.heap.size + 17, 0, none⟩) 2 2], .slice (some ⟨w.heap.size + 18, 0, none⟩) 2 2, .agg #[.int .i64 64262, .slice (some ⟨w.heap.size + 18, 0, none⟩) 2 2], v_l, undef, undef, undef, undef, undef, undef, undef, undef, undef, undef, undef, undef, undef, undef, undef, undef, undef, undef, undef, undef, undef, undef, undef, undef, undef, undef, undef, undef, undef, undef, undef, undef, undef, undef], defers := [] }) w api_Folds.lit (by kernel_rfl) (by decide) ?_
  intro v164 w3 ho4 hb hg_ hnew_
  clear hg_ hnew_
  (first | rw [← Ny163.out] at ho4 | (simp only [Int.reduceToNat] at ho4; rw [← Ny163.out] at ho4))
  have n0_ := Aside0.mk (Kd.N_lower (Kd.N_mono (ok' := fun k_ => (w.heap.size ≤ k_)) ho4 (fun k_ hk_ => (Nat.le_trans (below_size (by repeat (first | (with_reducible first | exact HB.out | apply below_alloc | apply pw_below_drewN | apply below_drew1) | exact HB.out))) hk_))) (below_size (by repeat (first | (with_reducible first | exact HB.out | apply below_alloc | apply pw_below_drewN | apply below_drew1) | exact HB.out))))
  have n1_ := Aside0.mk (below_step (by repeat (first | (with_reducible first | exact HB.out | apply below_alloc | apply pw_below_drewN | apply below_drew1) | exact HB.out)) hb)
  clear HB
  have HO165 := n0_
  have HB := n1_
  clear n0_ n1_
  clear hb ho4
  go_wp2_with (first | ((with_reducible refine gate_callee (f := 48) rfl ?_); refine goesL_ (some 45) rfl rfl Try.func48 (by kernel_rfl) rfl #[.string (⟨#[65, 66, 67, 68, 69, 70, 71, 72, 73, 74, 75, 76, 77, 78, 79, 80, 81, 82, 83, 84, 85, 86, 87, 88, 89, 90, 195, 128, 195, 129, 195, 130, 195, 131, 195, 132, 195, 133, 195, 134, 195, 135, 195, 136, 195, 137, 195, 138, 195, 139, 195, 140, 195, 141, 195, 142, 195, 143, 195, 144, 195, 145, 195, 146, 195, 147, 195, 148, 195, 149, 195, 150, 195, 152, 195, 153, 195, 154, 195, 155, 195, 156, 195, 157, 195, 158, 196, 128, 196, 130, 196, 132, 196, 134, 196, 136, 196, 138, 196, 140, 196, 142, 196, 144, 196, 146, 196, 148, 196, 150, 196, 152, 196, 154, 196, 156, 196, 158, 196, 160, 196, 162, 196, 164, 196, 166, 196, 168, 196, 170, 196, 172, 196, 174, 196, 178, 196, 180, 196, 182, 196, 185, 196, 187, 196, 189, 196, 191, 197, 129, 197, 131, 197, 133, 197, 135, 197, 138, 197, 140, 197, 142, 197, 144, 197, 146, 197, 148, 197, 150, 197, 152, 197, 154, 197, 156, 197, 158, 197, 160, 197, 162, 197, 164, 197, 166, 197, 168, 197, 170, 197, 172, 197, 174, 197, 176, 197, 178, 197, 180, 197, 182, 197, 184, 197, 185, 197, 187, 197, 189, 199, 184, 225, 186, 128, 225, 187, 178, 225, 186, 160, 225, 186, 184, 225, 187, 138, 225, 187, 140, 225, 187, 164, 225, 186, 164, 225, 186, 190, 225, 187, 144, 225, 186, 166, 225, 187, 128, 225, 187, 146, 225, 186, 172, 225, 187, 134, 225, 187, 152, 206, 145, 206, 146, 206, 147, 206, 148, 206, 149, 206, 150, 206, 151, 206, 152, 206, 153, 206, 154, 206, 155, 206, 156, 206, 157, 206, 158, 206, 159, 206, 160, 206, 161, 206, 163, 206, 164, 206, 165, 206, 166, 206, 167, 206, 168, 206, 169, 206, 134, 206, 136, 206, 137, 206, 138, 206, 140, 206, 142, 206, 143, 206, 170, 206, 171, 208, 144, 208, 145, 208, 146, 208, 147, 208, 148, 208, 149, 208, 150, 208, 151, 208, 152, 208, 153, 208, 154, 208, 155, 208, 156, 208, 157, 208, 158, 208, 159, 208, 160, 208, 161, 208, 162, 208, 163, 208, 164, 208, 165, 208, 166, 208, 167, 208, 168, 208, 169, 208, 170, 208, 171, 208, 172, 208, 173, 208, 174, 208, 175, 208, 128, 208, 129, 208, 130, 208, 131, 208, 132, 208, 133, 208, 134, 208, 135, 208, 136, 208, 137, 208, 138, 208, 139, 208, 140, 208, 141, 208, 142, 208, 143]⟩ : ByteArray)] rfl (by (try simp only [List.map_toArray, List.map_cons, List.map_nil]); first | done | rfl | (simp only [List.length_drop, List.length_take]; rfl)) ?_; (with_reducible refine (api_runes.calls (⟨#[65, 66, 67, 68, 69, 70, 71, 72, 73, 74, 75, 76, 77, 78, 79, 80, 81, 82, 83, 84, 85, 86, 87, 88, 89, 90, 195, 128, 195, 129, 195, 130, 195, 131, 195, 132, 195, 133, 195, 134, 195, 135, 195, 136, 195, 137, 195, 138, 195, 139, 195, 140, 195, 141, 195, 142, 195, 143, 195, 144, 195, 145, 195, 146, 195, 147, 195, 148, 195, 149, 195, 150, 195, 152, 195, 153, 195, 154, 195, 155, 195, 156, 195, 157, 195, 158, 196, 128, 196, 130, 196, 132, 196, 134, 196, 136, 196, 138, 196, 140, 196, 142, 196, 144, 196, 146, 196, 148, 196, 150, 196, 152, 196, 154, 196, 156, 196, 158, 196, 160, 196, 162, 196, 164, 196, 166, 196, 168, 196, 170, 196, 172, 196, 174, 196, 178, 196, 180, 196, 182, 196, 185, 196, 187, 196, 189, 196, 191, 197, 129, 197, 131, 197, 133, 197, 135, 197, 138, 197, 140, 197, 142, 197, 144, 197, 146, 197, 148, 197, 150, 197, 152, 197, 154, 197, 156, 197, 158, 197, 160, 197, 162, 197, 164, 197, 166, 197, 168, 197, 170, 197, 172, 197, 174, 197, 176, 197, 178, 197, 180, 197, 182, 197, 184, 197, 185, 197, 187, 197, 189, 199, 184, 225, 186, 128, 225, 187, 178, 225, 186, 160, 225, 186, 184, 225, 187, 138, 225, 187, 140, 225, 187, 164, 225, 186, 164, 225, 186, 190, 225, 187, 144, 225, 186, 166, 225, 187, 128, 225, 187, 146, 225, 186, 172, 225, 187, 134, 225, 187, 152, 206, 145, 206, 146, 206, 147, 206, 148, 206, 149, 206, 150, 206, 151, 206, 152, 206, 153, 206, 154, 206, 155, 206, 156, 206, 157, 206, 158, 206, 159, 206, 160, 206, 161, 206, 163, 206, 164, 206, 165, 206, 166, 206, 167, 206, 168, 206, 169, 206, 134, 206, 136, 206, 137, 206, 138, 206, 140, 206, 142, 206, 143, 206, 170, 206, 171, 208, 144, 208, 145, 208, 146, 208, 147, 208, 148, 208, 149, 208, 150, 208, 151, 208, 152, 208, 153, 208, 154, 208, 155, 208, 156, 208, 157, 208, 158, 208, 159, 208, 160, 208, 161, 208, 162, 208, 163, 208, 164, 208, 165, 208, 166, 208, 167, 208, 168, 208, 169, 208, 170, 208, 171, 208, 172, 208, 173, 208, 174, 208, 175, 208, 128, 208, 129, 208, 130, 208, 131, 208, 132, 208, 133, 208, 134, 208, 135, 208, 136, 208, 137, 208, 138, 208, 139, 208, 140, 208, 141, 208, 142, 208, 143]⟩ : ByteArray) t166 _ A1.out).mono ?_); rintro e w5 ⟨v167, rfl, ho0, hb⟩; refine ⟨_, rfl, ?_⟩; have n0_ := Aside0.mk (Kd.N_elder' (by (with_reducible repeat (first | apply Kd.N_alloc | apply Kd.N_drewN | apply Kd.N_drew)); exact HO165.out) (Kd.R_base ho0) hb); have n1_ := Aside0.mk (Kd.R_lower (Kd.R_newM (M := fun k_ => (w.heap.size ≤ k_)) ho0 (below_size (by repeat (first | (with_reducible first | exact HB.out | apply below_alloc | apply pw_below_drewN | apply below_drew1) | exact HB.out))) (fun k_ h_ => h_)) (below_size (by repeat (first | (with_reducible first | exact HB.out | apply below_alloc | apply pw_below_drewN | apply below_drew1) | exact HB.out)))); have n2_ := Aside0.mk (below_step (by repeat (first | (with_reducible first | exact HB.out | apply below_alloc | apply pw_below_drewN | apply below_drew1) | exact HB.out)) hb); clear HO165; clear HB; have HO165 := n0_; have HO168 := n1_; have HB := n2_; clear n0_ n1_ n2_; (try clear hb); (try clear hb2); (try clear hk); (try clear hi); (try clear ho0)) | ((with_reducible refine gate_callee (f := 48) rfl ?_); refine goesL_ (some 46) rfl rfl Try.func48 (by kernel_rfl) rfl #[.string (⟨#[97, 98, 99, 100, 101, 102, 103, 104, 105, 106, 107, 108, 109, 110, 111, 112, 113, 114, 115, 116, 117, 118, 119, 120, 121, 122, 195, 160, 195, 161, 195, 162, 195, 163, 195, 164, 195, 165, 195, 166, 195, 167, 195, 168, 195, 169, 195, 170, 195, 171, 195, 172, 195, 173, 195, 174, 195, 175, 195, 176, 195, 177, 195, 178, 195, 179, 195, 180, 195, 181, 195, 182, 195, 184, 195, 185, 195, 186, 195, 187, 195, 188, 195, 189, 195, 190, 196, 129, 196, 131, 196, 133, 196, 135, 196, 137, 196, 139, 196, 141, 196, 143, 196, 145, 196, 147, 196, 149, 196, 151, 196, 153, 196, 155, 196, 157, 196, 159, 196, 161, 196, 163, 196, 165, 196, 167, 196, 169, 196, 171, 196, 173, 196, 175, 196, 179, 196, 181, 196, 183, 196, 186, 196, 188, 196, 190, 197, 128, 197, 130, 197, 132, 197, 134, 197, 136, 197, 139, 197, 141, 197, 143, 197, 145, 197, 147, 197, 149, 197, 151, 197, 153, 197, 155, 197, 157, 197, 159, 197, 161, 197, 163, 197, 165, 197, 167, 197, 169, 197, 171, 197, 173, 197, 175, 197, 177, 197, 179, 197, 181, 197, 183, 195, 191, 197, 186, 197, 188, 197, 190, 199, 185, 225, 186, 129, 225, 187, 179, 225, 186, 161, 225, 186, 185, 225, 187, 139, 225, 187, 141, 225, 187, 165, 225, 186, 165, 225, 186, 191, 225, 187, 145, 225, 186, 167, 225, 187, 129, 225, 187, 147, 225, 186, 173, 225, 187, 135, 225, 187, 153, 206, 177, 206, 178, 206, 179, 206, 180, 206, 181, 206, 182, 206, 183, 206, 184, 206, 185, 206, 186, 206, 187, 206, 188, 206, 189, 206, 190, 206, 191, 207, 128, 207, 129, 207, 131, 207, 132, 207, 133, 207, 134, 207, 135, 207, 136, 207, 137, 206, 172, 206, 173, 206, 174, 206, 175, 207, 140, 207, 141, 207, 142, 207, 138, 207, 139, 208, 176, 208, 177, 208, 178, 208, 179, 208, 180, 208, 181, 208, 182, 208, 183, 208, 184, 208, 185, 208, 186, 208, 187, 208, 188, 208, 189, 208, 190, 208, 191, 209, 128, 209, 129, 209, 130, 209, 131, 209, 132, 209, 133, 209, 134, 209, 135, 209, 136, 209, 137, 209, 138, 209, 139, 209, 140, 209, 141, 209, 142, 209, 143, 209, 144, 209, 145, 209, 146, 209, 147, 209, 148, 209, 149, 209, 150, 209, 151, 209, 152, 209, 153, 209, 154, 209, 155, 209, 156, 209, 157, 209, 158, 209, 159]⟩ : ByteArray)] rfl (by (try simp only [List.map_toArray, List.map_cons, List.map_nil]); first | done | rfl | (simp only [List.length_drop, List.length_take]; rfl)) ?_; (with_reducible refine (api_runes.calls (⟨#[97, 98, 99, 100, 101, 102, 103, 104, 105, 106, 107, 108, 109, 110, 111, 112, 113, 114, 115, 116, 117, 118, 119, 120, 121, 122, 195, 160, 195, 161, 195, 162, 195, 163, 195, 164, 195, 165, 195, 166, 195, 167, 195, 168, 195, 169, 195, 170, 195, 171, 195, 172, 195, 173, 195, 174, 195, 175, 195, 176, 195, 177, 195, 178, 195, 179, 195, 180, 195, 181, 195, 182, 195, 184, 195, 185, 195, 186, 195, 187, 195, 188, 195, 189, 195, 190, 196, 129, 196, 131, 196, 133, 196, 135, 196, 137, 196, 139, 196, 141, 196, 143, 196, 145, 196, 147, 196, 149, 196, 151, 196, 153, 196, 155, 196, 157, 196, 159, 196, 161, 196, 163, 196, 165, 196, 167, 196, 169, 196, 171, 196, 173, 196, 175, 196, 179, 196, 181, 196, 183, 196, 186, 196, 188, 196, 190, 197, 128, 197, 130, 197, 132, 197, 134, 197, 136, 197, 139, 197, 141, 197, 143, 197, 145, 197, 147, 197, 149, 197, 151, 197, 153, 197, 155, 197, 157, 197, 159, 197, 161, 197, 163, 197, 165, 197, 167, 197, 169, 197, 171, 197, 173, 197, 175, 197, 177, 197, 179, 197, 181, 197, 183, 195, 191, 197, 186, 197, 188, 197, 190, 199, 185, 225, 186, 129, 225, 187, 179, 225, 186, 161, 225, 186, 185, 225, 187, 139, 225, 187, 141, 225, 187, 165, 225, 186, 165, 225, 186, 191, 225, 187, 145, 225, 186, 167, 225, 187, 129, 225, 187, 147, 225, 186, 173, 225, 187, 135, 225, 187, 153, 206, 177, 206, 178, 206, 179, 206, 180, 206, 181, 206, 182, 206, 183, 206, 184, 206, 185, 206, 186, 206, 187, 206, 188, 206, 189, 206, 190, 206, 191, 207, 128, 207, 129, 207, 131, 207, 132, 207, 133, 207, 134, 207, 135, 207, 136, 207, 137, 206, 172, 206, 173, 206, 174, 206, 175, 207, 140, 207, 141, 207, 142, 207, 138, 207, 139, 208, 176, 208, 177, 208, 178, 208, 179, 208, 180, 208, 181, 208, 182, 208, 183, 208, 184, 208, 185, 208, 186, 208, 187, 208, 188, 208, 189, 208, 190, 208, 191, 209, 128, 209, 129, 209, 130, 209, 131, 209, 132, 209, 133, 209, 134, 209, 135, 209, 136, 209, 137, 209, 138, 209, 139, 209, 140, 209, 141, 209, 142, 209, 143, 209, 144, 209, 145, 209, 146, 209, 147, 209, 148, 209, 149, 209, 150, 209, 151, 209, 152, 209, 153, 209, 154, 209, 155, 209, 156, 209, 157, 209, 158, 209, 159]⟩ : ByteArray) t169 _ A2.out).mono ?_); rintro e w6 ⟨v170, rfl, ho0, hb⟩; refine ⟨_, rfl, ?_⟩; have n0_ := Aside0.mk (Kd.N_elder' (by (with_reducible repeat (first | apply Kd.N_alloc | apply Kd.N_drewN | apply Kd.N_drew)); exact HO165.out) (Kd.R_base ho0) hb); have n1_ := Aside0.mk (Kd.R_elder' (by (with_reducible repeat (first | apply Kd.R_alloc | apply Kd.R_drewN | apply Kd.R_drew)); exact HO168.out) (Kd.R_base ho0) hb); have n2_ := Aside0.mk (Kd.R_lower (Kd.R_new' (Kd.R_newM (M := fun k_ => (w.heap.size ≤ k_)) ho0 (below_size (by repeat (first | (with_reducible first | exact HB.out | apply below_alloc | apply pw_below_drewN | apply below_drew1) | exact HB.out))) (fun k_ h_ => h_)) (Kd.R_lt (by (with_reducible repeat (first | apply Kd.R_alloc | apply Kd.R_drewN | apply Kd.R_drew)); exact HO168.out))) (below_size (by repeat (first | (with_reducible first | exact HB.out | apply below_alloc | apply pw_below_drewN | apply below_drew1) | exact HB.out)))); have n3_ := Aside0.mk (below_step (by repeat (first | (with_reducible first | exact HB.out | apply below_alloc | apply pw_below_drewN | apply below_drew1) | exact HB.out)) hb); clear HO165; clear HO168; clear HB; have HO165 := n0_; have HO168 := n1_; have HO171 := n2_; have HB := n3_; clear n0_ n1_ n2_ n3_; (try clear hb); (try clear hb2); (try clear hk); (try clear hi); (try clear ho0); obtain ⟨Ao7, co7, eo7⟩ := Kd.R_slice HO168.out; subst eo7))
  go_loopg [1, 49] k (fun kq v1 v49 w' => ∃ (x1_1 : List (S43)) (x49_1 : Int), v49 = .int .i64 x49_1 ∧ Aside0 (api_Folds.l0 kq x1_1 t166 t169 (t166.length : Int) x49_1 = some r) ∧ Aside0 (kq ≤ k) ∧ Aside0 (Kd.N k43 43 w' w.heap.size (fun k_ => (w.heap.size ≤ k_) ∧ some k_ ≠ ((.slice Ao7 t166.length co7) : Value).ownBlock ∧ some k_ ≠ (v170 : Value).ownBlock) v1 x1_1) ∧ Aside0 (Kd.R (Kd.int .i64) 3 w' w.heap.size (fun k_ => (w.heap.size ≤ k_) ∧ some k_ ≠ (v170 : Value).ownBlock) (.slice Ao7 t166.length co7) t166) ∧ Aside0 (Kd.R (Kd.int .i64) 3 w' w.heap.size (fun k_ => (w.heap.size ≤ k_) ∧ some k_ ≠ ((.slice Ao7 t166.length co7) : Value).ownBlock) v170 t169) ∧ Aside0 (Below w.heap.size w w'))
  case atStart => exact ⟨(y163), (0), (by first | rfl | (simp; done) | (simp [*]; done)), H', ⟨Nat.le_refl _⟩, ⟨by (with_reducible repeat (first | apply Kd.N_alloc | apply Kd.N_drewN | apply Kd.N_drew)); exact Kd.N_mono HO165.out (fun _ hk => ⟨hk.1.1, ⟨hk.1.2, hk.2⟩⟩)⟩, ⟨by (with_reducible repeat (first | apply Kd.R_alloc | apply Kd.R_drewN | apply Kd.R_drew)); exact Kd.R_mono HO168.out (fun _ hk => ⟨hk.1.1, hk.2⟩)⟩, ⟨by (with_reducible repeat (first | apply Kd.R_alloc | apply Kd.R_drewN | apply Kd.R_drew)); exact Kd.R_mono HO171.out (fun _ hk => ⟨hk.1.1, hk.2⟩)⟩, ⟨by repeat (first | (with_reducible first | exact HB.out | apply below_alloc | apply pw_below_drewN | apply below_drew1) | exact HB.out)⟩⟩
  case round =>
    clear H'
    try clear c2
    try clear p2
    try clear c4
    obtain ⟨x1_1, x49_1, rfl, HA, HK1, HO_1, HO_2, HO_3, HB⟩ := hrel
    cases gk with
    | zero => exact absurd HA.out (by simp [api_Folds.l0])
    | succ k1 =>
      have H := HA.out
      clear HA
      simp only [api_Folds.l0] at H
      by_cases c8 : x49_1 < (t166.length : Int)
      · rw [if_pos c8] at H
        have c8b0 : decide (x49_1 < (t166.length : Int)) = true := decide_eq_true c8
        clear c8
        by_cases c9 : 0 ≤ x49_1
        · rw [if_pos c9] at H
          have c9b0 : decide (0 ≤ x49_1) = true := decide_eq_true c9
          clear c9
          by_cases c10 : x49_1 < (t166.length : Int)
          · rw [if_pos c10] at H
            have c10b0 : decide (x49_1 < (t166.length : Int)) = true := decide_eq_true c10
            clear c10
            by_cases c11 : x49_1 < (t169.length : Int)
            · rw [if_pos c11] at H
              have c11b0 : decide (x49_1 < (t169.length : Int)) = true := decide_eq_true c11
              clear c11
              obtain ⟨y174, hy174⟩ : ∃ y_ : List Int, y_ = (([rd t169 x49_1] : List Int)) := ⟨_, rfl⟩
              replace H : (if x1_1.length < 4398046511104 then (api_Folds.l0 k1 (x1_1 ++ [(⟨rd t166 x49_1, y174⟩ : S43)]) t166 t169 (t166.length : Int) (wrap64 (x49_1 + 1))) else (none)) = some r := by first | (rw [hy174]; with_reducible exact H) | (have H2_ := (Option.bind_some _ _).symm.trans H; rw [hy174]; with_reducible exact H2_) | (have H2_ := (Option.bind_some _ _).symm.trans H; with_reducible exact H2_) | with_reducible exact H | (rw [hy174]; exact H) | exact H
              have Ny174 := Aside0.mk hy174
              clear hy174
              by_cases c12 : x1_1.length < 4398046511104
              · rw [if_pos c12] at H
                have LMc12 := Aside0.mk c12
                clear c12
                obtain ⟨y177, hy177⟩ : ∃ y_ : List (S43), y_ = (x1_1 ++ [(⟨rd t166 x49_1, y174⟩ : S43)]) := ⟨_, rfl⟩
                replace H : (api_Folds.l0 k1 y177 t166 t169 (t166.length : Int) (wrap64 (x49_1 + 1))) = some r := by first | (rw [hy177]; with_reducible exact H) | (have H2_ := (Option.bind_some _ _).symm.trans H; rw [hy177]; with_reducible exact H2_) | (have H2_ := (Option.bind_some _ _).symm.trans H; with_reducible exact H2_) | with_reducible exact H | (rw [hy177]; exact H) | exact H
                have Ny177 := Aside0.mk hy177
                clear hy177
                have H' := Aside0.mk H
                clear H
                try go_wp2
                have n0_ := Aside0.mk (Kd.N_drew HO_1.out)
                have n1_ := Aside0.mk (Kd.R_drew HO_2.out)
                have n2_ := Aside0.mk (Kd.R_drew HO_3.out)
                have n3_ := Aside0.mk (below_drew1 HB.out)
                clear HO_1
                clear HO_2
                clear HO_3
                clear HB
                have HO_1 := n0_
                have HO_2 := n1_
                have HO_3 := n2_
                have HB := n3_
                clear n0_ n1_ n2_ n3_
                have p172 : 0 ≤ (x49_1 : Int) := of_decide_eq_true (by first | (with_reducible assumption) | assumption)
                have q172 : x49_1 < (t166.length : Int) := of_decide_eq_true (by first | (with_reducible assumption) | assumption)
                obtain ⟨ad172, e172, hx172_0⟩ := Kd.at_int (Kd.R_reads' HO_2.out).2.2 x49_1 p172 q172
                cases e172
                replace p172 := eq_true p172
                replace q172 := eq_true q172
                obtain ⟨Ao14, co14, eo14⟩ := Kd.R_slice HO_3.out
                (first | subst eo14 | (injection eo14 with f1_ f2_ f3_; have f4_ := f1_.symm; have f5_ := f3_.symm; clear f1_ f2_ f3_; subst f4_; subst f5_))
                have p173 : 0 ≤ (x49_1 : Int) := of_decide_eq_true (by first | (with_reducible assumption) | assumption)
                have q173 : x49_1 < (t169.length : Int) := of_decide_eq_true (by first | (with_reducible assumption) | assumption)
                obtain ⟨ad173, e173, hx173_0⟩ := Kd.at_int (Kd.R_reads' HO_3.out).2.2 x49_1 p173 q173
                cases e173
                replace p173 := eq_true p173
                replace q173 := eq_true q173
                refine start_ (n := 14) (S := fun w' => w'.cell? (ad172.add (x49_1).toNat) = some (.int .i64 (rd t166 x49_1)) ∧ w'.cell? (ad173.add (x49_1).toNat) = some (.int .i64 (rd t169 x49_1))) (ds := [11, 12]) #[false, false, false, false, false, false, false, false, false, false, false, false, false, false] (by kernel_rfl) rfl rfl ⟨hx172_0, hx173_0⟩ (fun hHeld => ?_); refine with_tabW api_Folds.tab7 api_Folds.bits7 (fun HT_ HW_ => ?_)
                generalize wr.drew = w13 at HO_1 HO_2 HO_3 HB hx172_0 hx173_0 hHeld ⊢
                refine pure_ (i := 0) (N := some 52) (v := ?_) (a' := ?_) #[true, false, false, false, false, false, false, false, false, false, false, false, false, false] rfl rfl (any_of HT_.out (by kernel_rfl)) (fun _ _ _ h => h) (Or.inl ⟨by rfl, ?_⟩) ?_ ?_
                rotate_left
                · intro w'
                  go_simp
                  with_reducible rfl
                rotate_left
                · simp only [Act.put, List.setIfInBounds_toArray, List.set_cons_zero, List.set_cons_succ, i64_w, i32_w]
                  rfl
                refine pure_ (i := 1) (N := some 53) (v := ?_) (a' := ?_) #[true, true, false, false, false, false, false, false, false, false, false, false, false, false] rfl rfl (any_of HT_.out (by kernel_rfl)) (fun _ _ _ h => h) (Or.inl ⟨by rfl, ?_⟩) ?_ ?_
                rotate_left
                · intro w'
                  go_simp
                  with_reducible rfl
                rotate_left
                · simp only [Act.put, List.setIfInBounds_toArray, List.set_cons_zero, List.set_cons_succ, i64_w, i32_w]
                  rfl
                refine pure_ (i := 2) (N := some 54) (v := ?_) (a' := ?_) #[true, true, true, false, false, false, false, false, false, false, false, false, false, false] rfl rfl (any_of HT_.out (by kernel_rfl)) (fun _ _ _ h => h) (Or.inl ⟨by rfl, ?_⟩) ?_ ?_
                rotate_left
                · intro w'
                  go_simp
                  with_reducible rfl
                rotate_left
                · simp only [Act.put, List.setIfInBounds_toArray, List.set_cons_zero, List.set_cons_succ, i64_w, i32_w]
                  rfl
                refine pure_ (i := 3) (N := some 55) (v := ?_) (a' := ?_) #[true, true, true, true, false, false, false, false, false, false, false, false, false, false] rfl rfl (any_of HT_.out (by kernel_rfl)) (fun _ _ _ h => h) (Or.inl ⟨by rfl, ?_⟩) ?_ ?_
                rotate_left
                · intro w'
                  go_simp
                  with_reducible rfl
                rotate_left
                · simp only [Act.put, List.setIfInBounds_toArray, List.set_cons_zero, List.set_cons_succ, i64_w, i32_w]
                  rfl
                refine pure_ (i := 5) (N := some 57) (v := ?_) (a' := ?_) #[true, true, true, true, false, true, false, false, false, false, false, false, false, false] rfl rfl (any_of HT_.out (by kernel_rfl)) (fun _ _ _ h => h) (Or.inl ⟨by rfl, ?_⟩) ?_ ?_
                rotate_left
                · intro w'
                  go_simp
                  with_reducible rfl
                rotate_left
                · simp only [Act.put, List.setIfInBounds_toArray, List.set_cons_zero, List.set_cons_succ, i64_w, i32_w]
                  rfl
                refine pure_ (i := 6) (N := some 58) (v := ?_) (a' := ?_) #[true, true, true, true, false, true, true, false, false, false, false, false, false, false] rfl rfl (any_of HT_.out (by kernel_rfl)) (fun _ _ _ h => h) (Or.inl ⟨by rfl, ?_⟩) ?_ ?_
                rotate_left
                · intro w'
                  go_simp
                  with_reducible rfl
                rotate_left
                · simp only [Act.put, List.setIfInBounds_toArray, List.set_cons_zero, List.set_cons_succ, i64_w, i32_w]
                  rfl
                refine pure_ (i := 7) (N := some 59) (v := ?_) (a' := ?_) #[true, true, true, true, false, true, true, true, false, false, false, false, false, false] rfl rfl (any_of HT_.out (by kernel_rfl)) (fun _ _ _ h => h) (Or.inl ⟨by rfl, ?_⟩) ?_ ?_
                rotate_left
                · intro w'
                  go_simp
                  with_reducible rfl
                rotate_left
                · simp only [Act.put, List.setIfInBounds_toArray, List.set_cons_zero, List.set_cons_succ, i64_w, i32_w]
                  rfl
                refine take_ (i := 4) (N := some 56) (v := ?_) (a' := ?_) #[true, true, true, true, true, true, true, true, false, false, false, false, false, false] rfl rfl (take_ofW HT_.out HW_.out (by kernel_rfl)) (fun _ _ _ h => h) (Or.inl ⟨by rfl, ?_⟩) hHeld ?_ ?_
                rotate_left
                · rintro w' ⟨s0, s1⟩
                  go_simp
                  with_reducible rfl
                rotate_left
                · simp only [Act.put, List.setIfInBounds_toArray, List.set_cons_zero, List.set_cons_succ, i64_w, i32_w]
                  rfl
                refine take_ (i := 8) (N := some 60) (v := ?_) (a' := ?_) #[true, true, true, true, true, true, true, true, true, false, false, false, false, false] rfl rfl (take_ofW HT_.out HW_.out (by kernel_rfl)) (fun _ _ _ h => h) (Or.inl ⟨by rfl, ?_⟩) hHeld ?_ ?_
                rotate_left
                · rintro w' ⟨s0, s1⟩
                  go_simp
                  with_reducible rfl
                rotate_left
                · simp only [Act.put, List.setIfInBounds_toArray, List.set_cons_zero, List.set_cons_succ, i64_w, i32_w]
                  rfl
                refine one_ (i := 9) (N := some 61) #[true, true, true, true, true, true, true, true, true, true, false, false, false, false] rfl rfl (one_of HT_.out (by kernel_rfl)) (by decide) (fun K hK => ?_)
                refine Kd.R_lit_step (Kd.int .i64) _ 3 ?hg (N := 61) ?hd (xs := ([rd t169 x49_1] : List Int)) (inner := [.int .i64 (rd t169 x49_1)]) (ok := fun _ => True) (okp := fun _ => True) ?hr ?hp (fun _ hk => hk) trivial (Below.refl _ _) (Nat.le_refl _) (by simp) ?_; (case hd => rfl); (case hg => rfl); (case hr => first | (go_simp; done) | (go_simp; rfl)); (case hp => exact (Reps.one (show Kd.M (Kd.int .i64) _ _ _ (rd t169 x49_1) [.int .i64 (rd t169 x49_1)] from rfl) (Reps.none _ _)))
                intro v175 w15 ho16 hb hg_ hnew_
                have HS0_ := (hb.cell (World.block_lt_of_cell? _ _ (hHeld.1))).trans (hHeld.1)
                have HS1_ := (hb.cell (World.block_lt_of_cell? _ _ (hHeld.2))).trans (hHeld.2)
                clear hg_ hnew_
                (first | rw [← Ny174.out] at ho16 | (simp only [Int.reduceToNat] at ho16; rw [← Ny174.out] at ho16))
                have n0_ := Aside0.mk (Kd.N_elder' (by (with_reducible repeat (first | apply Kd.N_alloc | apply Kd.N_drewN | apply Kd.N_drew)); exact HO_1.out) (Kd.R_base ho16) hb)
                have n1_ := Aside0.mk (Kd.R_elder' (by (with_reducible repeat (first | apply Kd.R_alloc | apply Kd.R_drewN | apply Kd.R_drew)); exact HO_2.out) (Kd.R_base ho16) hb)
                have n2_ := Aside0.mk (Kd.R_elder' (by (with_reducible repeat (first | apply Kd.R_alloc | apply Kd.R_drewN | apply Kd.R_drew)); exact HO_3.out) (Kd.R_base ho16) hb)
                have n3_ := Aside0.mk (Kd.R_lower (Kd.R_new' (Kd.R_new' (Kd.R_newM (M := fun k_ => (w.heap.size ≤ k_)) ho16 (below_size (by repeat (first | (with_reducible first | exact HB.out | apply below_alloc | apply pw_below_drewN | apply below_drew1) | exact HB.out))) (fun k_ h_ => h_)) (Kd.R_lt (by (with_reducible repeat (first | apply Kd.R_alloc | apply Kd.R_drewN | apply Kd.R_drew)); exact HO_2.out))) (Kd.R_lt (by (with_reducible repeat (first | apply Kd.R_alloc | apply Kd.R_drewN | apply Kd.R_drew)); exact HO_3.out))) (below_size (by repeat (first | (with_reducible first | exact HB.out | apply below_alloc | apply pw_below_drewN | apply below_drew1) | exact HB.out))))
                have n4_ := Aside0.mk (below_step (by repeat (first | (with_reducible first | exact HB.out | apply below_alloc | apply pw_below_drewN | apply below_drew1) | exact HB.out)) hb)
                clear HO_1
                clear HO_2
                clear HO_3
                clear HB
                have HO_1 := n0_
                have HO_2 := n1_
                have HO_3 := n2_
                have HO176 := n3_
                have HB := n4_
                clear n0_ n1_ n2_ n3_ n4_
                clear hb ho16
                obtain ⟨Ao17, co17, eo17⟩ := Kd.R_slice HO176.out
                (first | subst eo17 | (injection eo17 with f1_ f2_ f3_; have f4_ := f1_.symm; have f5_ := f3_.symm; clear f1_ f2_ f3_; subst f4_; subst f5_))
                refine hK.out _ _ ⟨HS0_, HS1_⟩ (fun hHeld => ?_)
                clear hK K
                refine norm_ (a' := ?_) ?_ ?_
                rotate_left
                · show Act.put _ (some 61) _ = _
                  simp only [Act.put, List.setIfInBounds_toArray, List.set_cons_zero, List.set_cons_succ, i64_w, i32_w]
                  rfl
                refine pure_ (i := 10) (N := some 62) (v := ?_) (a' := ?_) #[true, true, true, true, true, true, true, true, true, true, true, false, false, false] rfl rfl (any_of HT_.out (by kernel_rfl)) (fun _ _ _ h => h) (Or.inl ⟨by rfl, ?_⟩) ?_ ?_
                rotate_left
                · intro w'
                  go_simp
                  with_reducible rfl
                rotate_left
                · simp only [Act.put, List.setIfInBounds_toArray, List.set_cons_zero, List.set_cons_succ, i64_w, i32_w]
                  rfl
                refine last_ (i := 11) (N := some 63) #[true, true, true, true, true, true, true, true, true, true, true, true, false, false] rfl rfl (one_of HT_.out (by kernel_rfl)) (by decide) (fun K hK => ?_)
                refine value_ (w1 := ?_) (v := ?_) (by rfl) rfl ?_ ?_
                rotate_left 2
                · go_simp
                  constructor
                  · rfl
                  · rfl
                refine hK.out _ _ ?_
                clear hK K
                refine norm_ (a' := ?_) ?_ ?_
                rotate_left
                · show Act.put _ (some 63) _ = _
                  simp only [Act.put, List.setIfInBounds_toArray, List.set_cons_zero, List.set_cons_succ, i64_w, i32_w]
                  rfl
                refine last_ (i := 12) (N := some 64) #[true, true, true, true, true, true, true, true, true, true, true, true, true, false] rfl rfl (one_of HT_.out (by kernel_rfl)) (by decide) (fun K hK => ?_)
                refine Kd.N_append_step k43 (w0 := w) w.heap.size (by rfl) (.tmp 52) (.tmp 63) 39 43 (.agg #[(.int .i64 0), (.slice none 0 0)]) 32 rfl Try.underlying39 info43 rfl (by decide) (by omega) u1 x1_1 (⟨rd t166 x49_1, y174⟩ : S43) [.int .i64 (rd t166 x49_1), .slice Ao17 y174.length co17] (fun k_ => (w.heap.size ≤ k_) ∧ some k_ ≠ (.slice (some ad172) t166.length co7 : Value).ownBlock ∧ some k_ ≠ (.slice (some ad173) t169.length co14 : Value).ownBlock) (fun k_ => ((fun k_ => (w.heap.size ≤ k_) ∧ some k_ ≠ (.slice (some ad172) t166.length co7 : Value).ownBlock ∧ some k_ ≠ (.slice (some ad173) t169.length co14 : Value).ownBlock)) k_ ∧ some k_ ≠ (u1 : Value).ownBlock) rfl rfl ?aP (fun _ hk => hk) ?aF ?aO ?aB ?aS ?aL ?_
                (case aP => exact (k43_mkF _ _ (⟨rd t166 x49_1, y174⟩ : S43) (Kd.R_reads' (Kd.R_mono (ok' := (fun k_ => ((fun k_ => (w.heap.size ≤ k_) ∧ some k_ ≠ (.slice (some ad172) t166.length co7 : Value).ownBlock ∧ some k_ ≠ (.slice (some ad173) t169.length co14 : Value).ownBlock)) k_ ∧ some k_ ≠ (u1 : Value).ownBlock)) (Kd.R_apart' (HO176.out) (Kd.N_typed HO_1.out) (by decide)) (fun k_ hk => ⟨⟨hk.1.1.1.1, ⟨hk.1.1.2, hk.1.2⟩⟩, hk.2⟩))).2.1 (Kd.R_F (Kd.R_mono (ok' := (fun k_ => ((fun k_ => (w.heap.size ≤ k_) ∧ some k_ ≠ (.slice (some ad172) t166.length co7 : Value).ownBlock ∧ some k_ ≠ (.slice (some ad173) t169.length co14 : Value).ownBlock)) k_ ∧ some k_ ≠ (u1 : Value).ownBlock)) (Kd.R_apart' (HO176.out) (Kd.N_typed HO_1.out) (by decide)) (fun k_ hk => ⟨⟨hk.1.1.1.1, ⟨hk.1.1.2, hk.1.2⟩⟩, hk.2⟩)))))
                (case aB => exact (by repeat (first | (with_reducible first | exact HB.out | apply below_alloc | apply pw_below_drewN | apply below_drew1) | exact HB.out)))
                (case aF => exact (fun k_ hk => ⟨(Nat.le_trans (below_size (by repeat (first | (with_reducible first | exact HB.out | apply below_alloc | apply pw_below_drewN | apply below_drew1) | exact HB.out))) hk), Kd.fresh' (Kd.R_lt (by (with_reducible repeat (first | apply Kd.R_alloc | apply Kd.R_drewN | apply Kd.R_drew)); exact HO_2.out)) k_ hk, Kd.fresh' (Kd.R_lt (by (with_reducible repeat (first | apply Kd.R_alloc | apply Kd.R_drewN | apply Kd.R_drew)); exact HO_3.out)) k_ hk⟩))
                (case aO => exact (by (with_reducible repeat (first | apply Kd.N_alloc | apply Kd.N_drewN | apply Kd.N_drew)); exact Kd.N_mono HO_1.out (fun _ hk => ⟨hk.1.1, ⟨hk.1.2.1, hk.1.2.2⟩⟩)))
                (case aS => exact (below_size (by repeat (first | (with_reducible first | exact HB.out | apply below_alloc | apply pw_below_drewN | apply below_drew1) | exact HB.out))))
                (case aL => have := LMc12.out; omega)
                intro v178 w18 ho hb hg hat
                rw [← Ny177.out] at ho
                have n0_ := Aside0.mk (Kd.R_over' (by (with_reducible repeat (first | apply Kd.R_alloc | apply Kd.R_drewN | apply Kd.R_drew)); exact HO_2.out) (Kd.N_typed (by (with_reducible repeat (first | apply Kd.N_alloc | apply Kd.N_drewN | apply Kd.N_drew)); exact HO_1.out)) (by decide) hg)
                have n1_ := Aside0.mk (Kd.R_over' (by (with_reducible repeat (first | apply Kd.R_alloc | apply Kd.R_drewN | apply Kd.R_drew)); exact HO_3.out) (Kd.N_typed (by (with_reducible repeat (first | apply Kd.N_alloc | apply Kd.N_drewN | apply Kd.N_drew)); exact HO_1.out)) (by decide) hg)
                have n2_ := Aside0.mk (hb)
                have n3_ := Aside0.mk (ho)
                clear HO_2
                clear HO_3
                clear HB
                clear HO_1
                clear HO176
                have HO_2 := n0_
                have HO_3 := n1_
                have HB := n2_
                have HO179 := n3_
                clear n0_ n1_ n2_ n3_
                clear ho hb hg hat
                refine hK.out _ _ ?_
                clear hK K
                refine norm_ (a' := ?_) ?_ ?_
                rotate_left
                · show Act.put _ (some 64) _ = _
                  simp only [Act.put, List.setIfInBounds_toArray, List.set_cons_zero, List.set_cons_succ, i64_w, i32_w]
                  rfl
                refine pure_ (i := 13) (N := some 1) (v := ?_) (a' := ?_) #[true, true, true, true, true, true, true, true, true, true, true, true, true, true] rfl rfl (any_of HT_.out (by kernel_rfl)) (fun _ _ _ h => h) (Or.inl ⟨by rfl, ?_⟩) ?_ ?_
                rotate_left
                · intro w'
                  go_simp
                  with_reducible rfl
                rotate_left
                · simp only [Act.put, List.setIfInBounds_toArray, List.set_cons_zero, List.set_cons_succ, i64_w, i32_w]
                  rfl
                refine done_ (done_of HT_.out (by kernel_rfl)) ?_
                try go_wp2
                go_roundg k1
                case measure => have := HK1.out; omega
                case rel => exact ⟨(y177), (wrap64 (x49_1 + 1)), (by first | rfl | (simp; done) | (simp [*]; done)), H', ⟨by have := HK1.out; omega⟩, ⟨by (with_reducible repeat (first | apply Kd.N_alloc | apply Kd.N_drewN | apply Kd.N_drew)); exact HO179.out⟩, ⟨by (with_reducible repeat (first | apply Kd.R_alloc | apply Kd.R_drewN | apply Kd.R_drew)); exact Kd.R_mono HO_2.out (fun _ hk => ⟨hk.1.1, hk.1.2⟩)⟩, ⟨by (with_reducible repeat (first | apply Kd.R_alloc | apply Kd.R_drewN | apply Kd.R_drew)); exact Kd.R_mono HO_3.out (fun _ hk => ⟨hk.1.1, hk.1.2⟩)⟩, ⟨by repeat (first | (with_reducible first | exact HB.out | apply below_alloc | apply pw_below_drewN | apply below_drew1) | exact HB.out)⟩⟩
              · rw [if_neg c12] at H
                exact absurd H (by simp)
            · rw [if_neg c11] at H
              exact absurd H (by simp)
          · rw [if_neg c10] at H
            exact absurd H (by simp)
        · rw [if_neg c9] at H
          exact absurd H (by simp)
      · rw [if_neg c8] at H
        have c8b0 : decide (x49_1 < (t166.length : Int)) = false := decide_eq_false c8
        clear c8
        have H' := Aside0.mk H
        clear H
        go_wp2
        go_loopg [1, 5] k1 (fun kq v1 v5 w' => ∃ (x1_2 : List (S43)) (x5_2 : Int), v5 = .int .i64 x5_2 ∧ Aside0 (api_Folds.l1 kq x1_2 x5_2 = some r) ∧ Aside0 (kq ≤ k1) ∧ Aside0 (Kd.N k43 43 w' w.heap.size (fun k_ => (w.heap.size ≤ k_)) v1 x1_2) ∧ Aside0 (Below w.heap.size w w'))
        case atStart => exact ⟨(x1_1), (65313), (by first | rfl | (simp; done) | (simp [*]; done)), H', ⟨Nat.le_refl _⟩, ⟨by (with_reducible repeat (first | apply Kd.N_alloc | apply Kd.N_drewN | apply Kd.N_drew)); exact Kd.N_mono HO_1.out (fun _ hk => hk.1)⟩, ⟨by repeat (first | (with_reducible first | exact HB.out | apply below_alloc | apply pw_below_drewN | apply below_drew1) | exact HB.out)⟩⟩
        case round =>
          clear H'
          try clear c1
          try clear p1
          try clear q1
          try clear hx1
          try clear c2
          try clear p2
          try clear c4
          try clear p6
          try clear c8
          try clear c8b0
          try clear c9
          try clear c9b0
          try clear c10
          try clear c10b0
          try clear c11
          try clear c11b0
          try clear c12
          try clear p17
          try clear q17
          try clear hx17
          try clear hx172_0
          try clear hx173_0
          try clear p172
          try clear p173
          try clear p2
          try clear q172
          try clear q173
          obtain ⟨x1_2, x5_2, rfl, HA, HK2, HO_1, HB⟩ := hrel
          cases gk with
          | zero => exact absurd HA.out (by simp [api_Folds.l1])
          | succ k2 =>
            have H := HA.out
            clear HA
            simp only [api_Folds.l1] at H
            by_cases c19 : x5_2 ≤ 65338
            · rw [if_pos c19] at H
              have c19b0 : decide (x5_2 ≤ 65338) = true := decide_eq_true c19
              clear c19
              obtain ⟨y180, hy180⟩ : ∃ y_ : List Int, y_ = (([wrap64 (x5_2 + 32)] : List Int)) := ⟨_, rfl⟩
              replace H : (if x1_2.length < 4398046511104 then (api_Folds.l1 k2 (x1_2 ++ [(⟨x5_2, y180⟩ : S43)]) (wrap64 (x5_2 + 1))) else (none)) = some r := by first | (rw [hy180]; with_reducible exact H) | (have H2_ := (Option.bind_some _ _).symm.trans H; rw [hy180]; with_reducible exact H2_) | (have H2_ := (Option.bind_some _ _).symm.trans H; with_reducible exact H2_) | with_reducible exact H | (rw [hy180]; exact H) | exact H
              have Ny180 := Aside0.mk hy180
              clear hy180
              by_cases c20 : x1_2.length < 4398046511104
              · rw [if_pos c20] at H
                have LMc20 := Aside0.mk c20
                clear c20
                obtain ⟨y183, hy183⟩ : ∃ y_ : List (S43), y_ = (x1_2 ++ [(⟨x5_2, y180⟩ : S43)]) := ⟨_, rfl⟩
                replace H : (api_Folds.l1 k2 y183 (wrap64 (x5_2 + 1))) = some r := by first | (rw [hy183]; with_reducible exact H) | (have H2_ := (Option.bind_some _ _).symm.trans H; rw [hy183]; with_reducible exact H2_) | (have H2_ := (Option.bind_some _ _).symm.trans H; with_reducible exact H2_) | with_reducible exact H | (rw [hy183]; exact H) | exact H
                have Ny183 := Aside0.mk hy183
                clear hy183
                have H' := Aside0.mk H
                clear H
                go_wp2_with (first | ((with_reducible refine gate_dst (N := 74) rfl ?_); refine Kd.R_lit (Kd.int .i64) _ 3 ?hg (N := 74) ?hd (xs := ([wrap64 (x5_2 + 32)] : List Int)) (inner := [.int .i64 (wrap64 (x5_2 + 32))]) (ok := fun _ => True) (okp := fun _ => True) ?hr ?hp (fun _ hk => hk) trivial (Below.refl _ _) (Nat.le_refl _) (by simp) ?_; (case hd => rfl); (case hg => rfl); (case hr => first | (go_simp; done) | (go_simp; rfl)); (case hp => exact (Reps.one (show Kd.M (Kd.int .i64) _ _ _ (wrap64 (x5_2 + 32)) [.int .i64 (wrap64 (x5_2 + 32))] from rfl) (Reps.none _ _))); intro v181 w21 ho22 hb hg_ hnew_; clear hg_ hnew_; (first | rw [← Ny180.out] at ho22 | (simp only [Int.reduceToNat] at ho22; rw [← Ny180.out] at ho22)); have n0_ := Aside0.mk (Kd.N_elder' (by (with_reducible repeat (first | apply Kd.N_alloc | apply Kd.N_drewN | apply Kd.N_drew)); exact HO_1.out) (Kd.R_base ho22) hb); have n1_ := Aside0.mk (Kd.R_lower (Kd.R_newM (M := fun k_ => (w.heap.size ≤ k_)) ho22 (below_size (by repeat (first | (with_reducible first | exact HB.out | apply below_alloc | apply pw_below_drewN | apply below_drew1) | exact HB.out))) (fun k_ h_ => h_)) (below_size (by repeat (first | (with_reducible first | exact HB.out | apply below_alloc | apply pw_below_drewN | apply below_drew1) | exact HB.out)))); have n2_ := Aside0.mk (below_step (by repeat (first | (with_reducible first | exact HB.out | apply below_alloc | apply pw_below_drewN | apply below_drew1) | exact HB.out)) hb); clear HO_1; clear HB; have HO_1 := n0_; have HO182 := n1_; have HB := n2_; clear n0_ n1_ n2_; clear hb ho22; obtain ⟨Ao23, co23, eo23⟩ := Kd.R_slice HO182.out; subst eo23) | ((with_reducible refine gate_builtin (b := .append) (xs := #[.tmp 70, .tmp 76]) rfl ?_); at_builtin; refine Kd.N_append k43 (w0 := w) w.heap.size rfl (.tmp 70) (.tmp 76) 39 43 (.agg #[(.int .i64 0), (.slice none 0 0)]) 32 rfl Try.underlying39 info43 rfl (by decide) (by omega) u1 x1_2 (⟨x5_2, y180⟩ : S43) [.int .i64 x5_2, .slice Ao23 y180.length co23] (fun k_ => (w.heap.size ≤ k_)) (fun k_ => ((fun k_ => (w.heap.size ≤ k_))) k_ ∧ some k_ ≠ (u1 : Value).ownBlock) rfl rfl ?aP (fun _ hk => hk) ?aF ?aO ?aB ?aS ?aL ?_; (case aP => exact (k43_mkF _ _ (⟨x5_2, y180⟩ : S43) (Kd.R_reads' (Kd.R_mono (ok' := (fun k_ => ((fun k_ => (w.heap.size ≤ k_))) k_ ∧ some k_ ≠ (u1 : Value).ownBlock)) (Kd.R_apart' (HO182.out) (Kd.N_typed HO_1.out) (by decide)) (fun k_ hk => ⟨hk.1.1, hk.2⟩))).2.1 (Kd.R_F (Kd.R_mono (ok' := (fun k_ => ((fun k_ => (w.heap.size ≤ k_))) k_ ∧ some k_ ≠ (u1 : Value).ownBlock)) (Kd.R_apart' (HO182.out) (Kd.N_typed HO_1.out) (by decide)) (fun k_ hk => ⟨hk.1.1, hk.2⟩))))); (case aB => exact (by repeat (first | (with_reducible first | exact HB.out | apply below_alloc | apply pw_below_drewN | apply below_drew1) | exact HB.out))); (case aF => exact (fun k_ hk => (Nat.le_trans (below_size (by repeat (first | (with_reducible first | exact HB.out | apply below_alloc | apply pw_below_drewN | apply below_drew1) | exact HB.out))) hk))); (case aO => exact (by (with_reducible repeat (first | apply Kd.N_alloc | apply Kd.N_drewN | apply Kd.N_drew)); exact Kd.N_mono HO_1.out (fun _ hk => hk.1))); (case aS => exact (below_size (by repeat (first | (with_reducible first | exact HB.out | apply below_alloc | apply pw_below_drewN | apply below_drew1) | exact HB.out)))); (case aL => have := LMc20.out; omega); intro v184 w24 ho hb hg hat; rw [← Ny183.out] at ho; have n0_ := Aside0.mk (hb); have n1_ := Aside0.mk (ho); clear HB; clear HO_1; clear HO182; have HB := n0_; have HO185 := n1_; clear n0_ n1_; clear ho hb hg hat))
                go_roundg k2
                case measure => have := HK1.out; have := HK2.out; omega
                case rel => exact ⟨(y183), (wrap64 (x5_2 + 1)), (by first | rfl | (simp; done) | (simp [*]; done)), H', ⟨by have := HK1.out; have := HK2.out; omega⟩, ⟨by (with_reducible repeat (first | apply Kd.N_alloc | apply Kd.N_drewN | apply Kd.N_drew)); exact HO185.out⟩, ⟨by repeat (first | (with_reducible first | exact HB.out | apply below_alloc | apply pw_below_drewN | apply below_drew1) | exact HB.out)⟩⟩
              · rw [if_neg c20] at H
                exact absurd H (by simp)
            · rw [if_neg c19] at H
              have c19b0 : decide (x5_2 ≤ 65338) = false := decide_eq_false c19
              clear c19
              obtain rfl := Option.some.inj H
              go_wp2
              go_ret
              exact ⟨_, by first | rfl | (simp [errW_none, errW_some] <;> rfl) | (simp [*, errW_none, errW_some] <;> rfl), by (with_reducible repeat (first | apply Kd.N_alloc | apply Kd.N_drewN | apply Kd.N_drew)); exact HO_1.out, by repeat (first | (with_reducible first | exact HB.out | apply below_alloc | apply pw_below_drewN | apply below_drew1) | exact HB.out)⟩

-- NOT PRINTED: function 45 (api_Map_int_int)

/-! ### ucd_mapped: function 46 -/
def ucd_mapped.f (a0_0 : Int) (l0_1 : List Int) : Option (Int × List Int) := some (a0_0, l0_1)
set_option maxHeartbeats 8000000 in
set_option maxRecDepth 100000 in
theorem ucd_mapped.calls (a0_0 : Int) (P0_1_ : Nat → Prop) (u9000_ : Value) (l0_1 : List Int) (r1 : Int) (r2 : List Int) (w0 w : World) (hB : Below w0.heap.size w0 w) (ho0_1 : Kd.R (Kd.int .i64) 3 w w0.heap.size P0_1_ u9000_ l0_1) (h : ucd_mapped.f a0_0 l0_1 = some (r1, r2)) :
    Calls Try.prog 46 #[.agg #[.int .i64 a0_0, u9000_]] w fun e w' => ∃ v1_ : Value, e = .returned (.tuple #[.int .i64 r1, v1_]) ∧ Kd.R (Kd.int .i64) 3 w' w0.heap.size (fun k_ => (P0_1_ k_ ∨ w.heap.size ≤ k_)) v1_ r2 ∧ Below w0.heap.size w0 w' ∧ Kept w w' (fun k_ => P0_1_ k_) := by
  have hu43 := Try.underlying43
  have HO0_1 := Aside0.mk (show Kd.R (Kd.int .i64) 3 w w0.heap.size (fun k_ => (P0_1_ k_ ∨ w.heap.size ≤ k_)) u9000_ l0_1 from Kd.R_mono ho0_1 (fun k_ hk => (.inl hk)))
  have HK := Aside0.mk (Kept.refl w (fun k_ => P0_1_ k_))
  have HW0 := Aside0.mk hB.size
  have HB := Aside0.mk hB
  clear hB
  have H : (some (a0_0, l0_1)) = some (r1, r2) := h
  clear h
  simp only [Option.some.injEq, Prod.mk.injEq] at H
  obtain ⟨rfl, rfl⟩ := H
  obtain ⟨Ao2, co2, eo2⟩ := Kd.R_slice HO0_1.out
  subst eo2
  go_enter Try.func46, Try.ntmps46
  go_wp2_with (first | ((with_reducible refine gate_dst (N := 1) rfl ?_); refine box_event ?hg (N := 1) ?hd (cs := #[.int .i64 a0_0, .slice Ao2 l0_1.length co2]) (t := 43) ?hr ?_; (case hd => rfl); (case hg => rfl); (case hr => first | (go_simp; done) | (go_simp; rfl)); intro gb186 hg w3 hbox hb; have n0_ := Aside0.mk (Kd.R_below (by (with_reducible repeat (first | apply Kd.R_alloc | apply Kd.R_drewN | apply Kd.R_drew)); exact HO0_1.out) hb); have n1_ := Aside0.mk (Kept.below (S := (fun k_ => P0_1_ k_)) (by repeat (first | (with_reducible first | exact HK.out | apply Kept.alloc | apply Kept.drewN | apply Kept.drew) | exact HK.out)) hb); have n2_ := Aside0.mk (below_step (by repeat (first | (with_reducible first | exact HB.out | apply below_alloc | apply pw_below_drewN | apply below_drew1) | exact HB.out)) hb); have n3_ := Aside0.mk (hbox); have n4_ := Aside0.mk ((by rw [hg]; exact (by first | exact HK.out.1 | exact (show Kept w _ (fun k_ => P0_1_ k_) from by repeat (first | (with_reducible first | exact HK.out | apply Kept.alloc | apply Kept.drewN | apply Kept.drew) | exact HK.out)).1) : w.heap.size ≤ gb186)); have n5_ := Aside0.mk ((by rw [hg]; exact (below_size (by repeat (first | (with_reducible first | exact HB.out | apply below_alloc | apply pw_below_drewN | apply below_drew1) | exact HB.out))) : w0.heap.size ≤ gb186)); clear HO0_1; clear HK; clear HB; have HO0_1 := n0_; have HK := n1_; have HB := n2_; have BK186 := n3_; have GW186 := n4_; have GE186 := n5_; clear n0_ n1_ n2_ n3_ n4_ n5_; clear hb hbox hg; have hcz4_0 : w3.cell? ⟨gb186, 0, none⟩ = some (.int .i64 a0_0) := (blk_cell BK186.out 0).trans rfl; have hcz4_1 : w3.cell? ⟨gb186, 1, none⟩ = some (.slice Ao2 l0_1.length co2) := (blk_cell BK186.out 1).trans rfl; have hfz4_0 := blk_frozen BK186.out 0; have hfz4_1 := blk_frozen BK186.out 1))
  repeat (go_quiet (first | ((with_reducible refine gate_dst (N := 1) rfl ?_); refine box_event ?hg (N := 1) ?hd (cs := #[.int .i64 a0_0, .slice Ao2 l0_1.length co2]) (t := 43) ?hr ?_; (case hd => rfl); (case hg => rfl); (case hr => first | (go_simp; done) | (go_simp; rfl)); intro gb186 hg w3 hbox hb; have n0_ := Aside0.mk (Kd.R_below (by (with_reducible repeat (first | apply Kd.R_alloc | apply Kd.R_drewN | apply Kd.R_drew)); exact HO0_1.out) hb); have n1_ := Aside0.mk (Kept.below (S := (fun k_ => P0_1_ k_)) (by repeat (first | (with_reducible first | exact HK.out | apply Kept.alloc | apply Kept.drewN | apply Kept.drew) | exact HK.out)) hb); have n2_ := Aside0.mk (below_step (by repeat (first | (with_reducible first | exact HB.out | apply below_alloc | apply pw_below_drewN | apply below_drew1) | exact HB.out)) hb); have n3_ := Aside0.mk (hbox); have n4_ := Aside0.mk ((by rw [hg]; exact (by first | exact HK.out.1 | exact (show Kept w _ (fun k_ => P0_1_ k_) from by repeat (first | (with_reducible first | exact HK.out | apply Kept.alloc | apply Kept.drewN | apply Kept.drew) | exact HK.out)).1) : w.heap.size ≤ gb186)); have n5_ := Aside0.mk ((by rw [hg]; exact (below_size (by repeat (first | (with_reducible first | exact HB.out | apply below_alloc | apply pw_below_drewN | apply below_drew1) | exact HB.out))) : w0.heap.size ≤ gb186)); clear HO0_1; clear HK; clear HB; have HO0_1 := n0_; have HK := n1_; have HB := n2_; have BK186 := n3_; have GW186 := n4_; have GE186 := n5_; clear n0_ n1_ n2_ n3_ n4_ n5_; clear hb hbox hg; have hcz4_0 : w3.cell? ⟨gb186, 0, none⟩ = some (.int .i64 a0_0) := (blk_cell BK186.out 0).trans rfl; have hcz4_1 : w3.cell? ⟨gb186, 1, none⟩ = some (.slice Ao2 l0_1.length co2) := (blk_cell BK186.out 1).trans rfl; have hfz4_0 := blk_frozen BK186.out 0; have hfz4_1 := blk_frozen BK186.out 1)); try go_wp2_with (first | ((with_reducible refine gate_dst (N := 1) rfl ?_); refine box_event ?hg (N := 1) ?hd (cs := #[.int .i64 a0_0, .slice Ao2 l0_1.length co2]) (t := 43) ?hr ?_; (case hd => rfl); (case hg => rfl); (case hr => first | (go_simp; done) | (go_simp; rfl)); intro gb186 hg w3 hbox hb; have n0_ := Aside0.mk (Kd.R_below (by (with_reducible repeat (first | apply Kd.R_alloc | apply Kd.R_drewN | apply Kd.R_drew)); exact HO0_1.out) hb); have n1_ := Aside0.mk (Kept.below (S := (fun k_ => P0_1_ k_)) (by repeat (first | (with_reducible first | exact HK.out | apply Kept.alloc | apply Kept.drewN | apply Kept.drew) | exact HK.out)) hb); have n2_ := Aside0.mk (below_step (by repeat (first | (with_reducible first | exact HB.out | apply below_alloc | apply pw_below_drewN | apply below_drew1) | exact HB.out)) hb); have n3_ := Aside0.mk (hbox); have n4_ := Aside0.mk ((by rw [hg]; exact (by first | exact HK.out.1 | exact (show Kept w _ (fun k_ => P0_1_ k_) from by repeat (first | (with_reducible first | exact HK.out | apply Kept.alloc | apply Kept.drewN | apply Kept.drew) | exact HK.out)).1) : w.heap.size ≤ gb186)); have n5_ := Aside0.mk ((by rw [hg]; exact (below_size (by repeat (first | (with_reducible first | exact HB.out | apply below_alloc | apply pw_below_drewN | apply below_drew1) | exact HB.out))) : w0.heap.size ≤ gb186)); clear HO0_1; clear HK; clear HB; have HO0_1 := n0_; have HK := n1_; have HB := n2_; have BK186 := n3_; have GW186 := n4_; have GE186 := n5_; clear n0_ n1_ n2_ n3_ n4_ n5_; clear hb hbox hg; have hcz4_0 : w3.cell? ⟨gb186, 0, none⟩ = some (.int .i64 a0_0) := (blk_cell BK186.out 0).trans rfl; have hcz4_1 : w3.cell? ⟨gb186, 1, none⟩ = some (.slice Ao2 l0_1.length co2) := (blk_cell BK186.out 1).trans rfl; have hfz4_0 := blk_frozen BK186.out 0; have hfz4_1 := blk_frozen BK186.out 1)))
  go_ret2
  exact ⟨_, by first | rfl | (simp [errW_none, errW_some] <;> rfl) | (simp [*, errW_none, errW_some] <;> rfl), by (with_reducible repeat (first | apply Kd.R_alloc | apply Kd.R_drewN | apply Kd.R_drew)); exact HO0_1.out, by repeat (first | (with_reducible first | exact HB.out | apply below_alloc | apply pw_below_drewN | apply below_drew1 | refine below_set ?_ GE186.out) | exact HB.out), by repeat (first | (with_reducible first | exact HK.out | apply Kept.alloc | apply Kept.drewN | apply Kept.drew | refine Kept.setCell ?_ (.inr GW186.out) _) | exact HK.out)⟩

end Go.Proofs.Ytimpcabimncnfaa.M
