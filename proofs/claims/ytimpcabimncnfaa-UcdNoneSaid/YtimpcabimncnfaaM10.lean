-- Written by wip/prn.py of this session out of the translation (function by function); Lean checks it.
import Derived.Test.YtimpcabimncnfaaM0
import Derived.Test.YtimpcabimncnfaaM1
import Derived.Test.YtimpcabimncnfaaM6
import Derived.Test.YtimpcabimncnfaaHUcd
namespace Go.Proofs.Ytimpcabimncnfaa.M
open Go.RowKit Go.Proofs.YtimpcabimncnfaaW.PrintWords Go.Proofs.YtimpcabimncnfaaW.PrintLast Go.Proofs.YtimpcabimncnfaaW.PrintMore
attribute [local go_sem] max2_int min2_int max_two min_two max_three min_three max_four min_four   -- for this text's walks alone
set_option linter.unusedVariables false
set_option linter.unusedSimpArgs false

/-! ### sobriquetlaw06_UcdNone: function 7 -/
def sobriquetlaw06_UcdNone.j0 : Nat → Int → Option (Bool)
  | 0, _ => none
  | k + 1, x5 => (ucd_Scalar.f x5).bind fun t383 => (if t383 = true then (some false) else ((ucd_Assigned.f k x5).bind fun t384 => (if t384 = true then (some false) else ((ucd_Nothing.f k x5).bind fun t385 => (if t385 = true then (some false) else ((ucd_Space.f k x5).bind fun t386 => (if t386 = true then (some false) else ((ucd_Prohibited.f k x5).bind fun t387 => (if t387 = true then (some false) else ((ucd_Class.f k x5).bind fun t388 => (if t388 = 0 then ((ucd_Canon.f x5).bind fun t389 => ((ucd_Compat.f x5).bind fun t392 => ((ucd_Fold.f x5).bind fun t395 => (if (wrap64 ((wrap64 ((t389.length : Int) + (t392.length : Int))) + (t395.length : Int))) = 0 then ((sobriquetlaw06_wakes.f k).bind fun t398 => (some t398)) else (some false))))) else (some false))))))))))))
def sobriquetlaw06_UcdNone.f (k : Nat) (a0 : Int) (a1 : Int) : Option (Bool) := if (Int.tmod (IntKind.u64.wrap (a1)) 3) = 1 then (sobriquetlaw06_UcdNone.j0 k (wrap64 (1114112 + (wrap64 (Int.tmod (IntKind.u64.wrap (a0)) 100000))))) else (if (Int.tmod (IntKind.u64.wrap (a1)) 3) = 2 then (sobriquetlaw06_UcdNone.j0 k (wrap64 ((-1) - (wrap64 (Int.tmod (IntKind.u64.wrap (a0)) 100000))))) else (sobriquetlaw06_UcdNone.j0 k (wrap64 (55296 + (wrap64 (Int.tmod (IntKind.u64.wrap (a0)) 2048))))))
theorem sobriquetlaw06_UcdNone.mono_l : ∀ k, (∀ y0, LeO (sobriquetlaw06_UcdNone.j0 k y0) (sobriquetlaw06_UcdNone.j0 (k + 1) y0))
  | 0 => fun _ r h => by simp [sobriquetlaw06_UcdNone.j0] at h
  | k + 1 => by
    have ih0 := sobriquetlaw06_UcdNone.mono_l k
    · intro y0
      unfold sobriquetlaw06_UcdNone.j0
      repeat' first
      | (with_reducible exact ih0 _)
      | (with_reducible exact sobriquetlaw06_wakes.mono _)
      | (with_reducible exact ucd_Assigned.mono _ _)
      | (with_reducible exact ucd_Class.mono _ _)
      | (with_reducible exact ucd_Nothing.mono _ _)
      | (with_reducible exact ucd_Prohibited.mono _ _)
      | (with_reducible exact ucd_Space.mono _ _)
      | (with_reducible exact LeO.refl _)
      | (with_reducible exact LeO.none _)
      | (with_reducible refine LeO.ite ?_ ?_)
      | (with_reducible refine LeO.bind ?_ (fun _ => ?_))
      | exact ih0 _
      | exact sobriquetlaw06_wakes.mono _
      | exact ucd_Assigned.mono _ _
      | exact ucd_Class.mono _ _
      | exact ucd_Nothing.mono _ _
      | exact ucd_Prohibited.mono _ _
      | exact ucd_Space.mono _ _
      | exact LeO.none _
      | refine LeO.ite ?_ ?_
      | refine LeO.bind ?_ (fun _ => ?_)
theorem sobriquetlaw06_UcdNone.mono : ∀ a0 a1 k, LeO (sobriquetlaw06_UcdNone.f k a0 a1) (sobriquetlaw06_UcdNone.f (k + 1) a0 a1) := by
  intro a0 a1 k
  have ih0 := sobriquetlaw06_UcdNone.mono_l k
  unfold sobriquetlaw06_UcdNone.f
  repeat' first
      | (with_reducible exact ih0 _)
      | (with_reducible exact sobriquetlaw06_wakes.mono _)
      | (with_reducible exact ucd_Assigned.mono _ _)
      | (with_reducible exact ucd_Class.mono _ _)
      | (with_reducible exact ucd_Nothing.mono _ _)
      | (with_reducible exact ucd_Prohibited.mono _ _)
      | (with_reducible exact ucd_Space.mono _ _)
      | (with_reducible exact LeO.refl _)
      | (with_reducible exact LeO.none _)
      | (with_reducible refine LeO.ite ?_ ?_)
      | (with_reducible refine LeO.bind ?_ (fun _ => ?_))
      | exact ih0 _
      | exact sobriquetlaw06_wakes.mono _
      | exact ucd_Assigned.mono _ _
      | exact ucd_Class.mono _ _
      | exact ucd_Nothing.mono _ _
      | exact ucd_Prohibited.mono _ _
      | exact ucd_Space.mono _ _
      | exact LeO.none _
      | refine LeO.ite ?_ ?_
      | refine LeO.bind ?_ (fun _ => ?_)
set_option maxHeartbeats 8000000 in
set_option maxRecDepth 100000 in
theorem sobriquetlaw06_UcdNone.calls (k : Nat) (a0 : Int) (a1 : Int) (r : Bool) (w : World) (h : sobriquetlaw06_UcdNone.f k a0 a1 = some r) :
    Calls Try.prog 7 #[.int .i64 a0, .int .i64 a1] w fun e w' => e = .returned (.bool r) ∧ Below w.heap.size w w' := by
  have HB := Aside0.mk (Below.refl w.heap.size w)
  have H : (if (Int.tmod (IntKind.u64.wrap (a1)) 3) = 1 then (sobriquetlaw06_UcdNone.j0 k (wrap64 (1114112 + (wrap64 (Int.tmod (IntKind.u64.wrap (a0)) 100000))))) else (if (Int.tmod (IntKind.u64.wrap (a1)) 3) = 2 then (sobriquetlaw06_UcdNone.j0 k (wrap64 ((-1) - (wrap64 (Int.tmod (IntKind.u64.wrap (a0)) 100000))))) else (sobriquetlaw06_UcdNone.j0 k (wrap64 (55296 + (wrap64 (Int.tmod (IntKind.u64.wrap (a0)) 2048))))))) = some r := h
  clear h
  have HC3 := Aside0.mk H
  clear H
  go_enter Try.func7, Try.ntmps7
  go_upto_block 0 with (fail)
  go_cut [5] (fun v5 wc => ∃ (kq : Nat) (x5_2 : Int), v5 = .int .i64 x5_2 ∧ Aside0 (sobriquetlaw06_UcdNone.j0 kq x5_2 = some r) ∧ Aside0 (kq ≤ k) ∧ Aside0 (Below w.heap.size w wc))
  case first =>
    have H := HC3.out
    clear HC3
    by_cases c4 : (Int.tmod (IntKind.u64.wrap (a1)) 3) = 1
    · rw [if_pos c4] at H
      have c4b0 : ((Int.tmod (IntKind.u64.wrap (a1)) 3) == 1) = true := beq_iff_eq.mpr c4
      have c4b1 : ((Int.tmod (IntKind.u64.wrap (a1)) 3) != 1) = false := bne_eq_false_iff_eq.mpr c4
      clear c4
      (first | rw [c4b0] | (simp only [i64_w, i32_w]; rw [c4b0]) | skip)
      have H' := Aside0.mk H
      clear H
      go_wp2
      go_meet
      case rel => exact ⟨_, (wrap64 (1114112 + (wrap64 (Int.tmod (IntKind.u64.wrap (a0)) 100000)))), (by first | rfl | (simp; done) | (simp [*]; done)), H', ⟨by first | omega | exact Nat.le_refl _⟩, ⟨by repeat (first | (with_reducible first | exact HB.out | apply below_alloc | apply pw_below_drewN | apply below_drew1) | exact HB.out)⟩⟩
    · rw [if_neg c4] at H
      have c4b0 : ((Int.tmod (IntKind.u64.wrap (a1)) 3) == 1) = false := beq_eq_false_iff_ne.mpr c4
      have c4b1 : ((Int.tmod (IntKind.u64.wrap (a1)) 3) != 1) = true := bne_iff_ne.mpr c4
      (first | rw [c4b0] | (simp only [i64_w, i32_w]; rw [c4b0]) | skip)
      by_cases c5 : (Int.tmod (IntKind.u64.wrap (a1)) 3) = 2
      · rw [if_pos c5] at H
        have c5b0 : ((Int.tmod (IntKind.u64.wrap (a1)) 3) == 2) = true := beq_iff_eq.mpr c5
        have c5b1 : ((Int.tmod (IntKind.u64.wrap (a1)) 3) != 2) = false := bne_eq_false_iff_eq.mpr c5
        clear c5
        have H' := Aside0.mk H
        clear H
        go_wp2
        go_meet
        case rel => exact ⟨_, (wrap64 ((-1) - (wrap64 (Int.tmod (IntKind.u64.wrap (a0)) 100000)))), (by first | rfl | (simp; done) | (simp [*]; done)), H', ⟨by first | omega | exact Nat.le_refl _⟩, ⟨by repeat (first | (with_reducible first | exact HB.out | apply below_alloc | apply pw_below_drewN | apply below_drew1) | exact HB.out)⟩⟩
      · rw [if_neg c5] at H
        have c5b0 : ((Int.tmod (IntKind.u64.wrap (a1)) 3) == 2) = false := beq_eq_false_iff_ne.mpr c5
        have c5b1 : ((Int.tmod (IntKind.u64.wrap (a1)) 3) != 2) = true := bne_iff_ne.mpr c5
        have H' := Aside0.mk H
        clear H
        go_wp2
        go_meet
        case rel => exact ⟨_, (wrap64 (55296 + (wrap64 (Int.tmod (IntKind.u64.wrap (a0)) 2048)))), (by first | rfl | (simp; done) | (simp [*]; done)), H', ⟨by first | omega | exact Nat.le_refl _⟩, ⟨by repeat (first | (with_reducible first | exact HB.out | apply below_alloc | apply pw_below_drewN | apply below_drew1) | exact HB.out)⟩⟩
  case rest =>
    clear HC3
    try clear p2
    try clear c4
    try clear c4b0
    try clear c4b1
    try clear c5
    try clear c5b0
    try clear c5b1
    obtain ⟨kq, x5_2, rfl, HA, HJ2, HB⟩ := hcut
    cases kq with
    | zero => exact absurd HA.out (by simp [sobriquetlaw06_UcdNone.j0])
    | succ kj2 =>
      have H := HA.out
      clear HA
      simp only [sobriquetlaw06_UcdNone.j0] at H
      replace H := Option.bind_eq_some_iff.mp H
      obtain ⟨t383, A60, H⟩ := H
      replace H : (if t383 = true then (some false) else ((ucd_Assigned.f kj2 x5_2).bind fun t384 => (if t384 = true then (some false) else ((ucd_Nothing.f kj2 x5_2).bind fun t385 => (if t385 = true then (some false) else ((ucd_Space.f kj2 x5_2).bind fun t386 => (if t386 = true then (some false) else ((ucd_Prohibited.f kj2 x5_2).bind fun t387 => (if t387 = true then (some false) else ((ucd_Class.f kj2 x5_2).bind fun t388 => (if t388 = 0 then ((ucd_Canon.f x5_2).bind fun t389 => ((ucd_Compat.f x5_2).bind fun t392 => ((ucd_Fold.f x5_2).bind fun t395 => (if (wrap64 ((wrap64 ((t389.length : Int) + (t392.length : Int))) + (t395.length : Int))) = 0 then ((sobriquetlaw06_wakes.f kj2).bind fun t398 => (some t398)) else (some false))))) else (some false)))))))))))) = some r := H
      have A6 := Aside0.mk A60
      clear A60
      by_cases c7 : t383 = true
      · subst c7
        have H1 : (some false) = some r := by rw [if_pos rfl] at H; exact H
        clear H
        have H := H1
        clear H1
        obtain rfl := Option.some.inj H
        go_wp2_with (first | ((with_reducible refine gate_callee (f := 22) rfl ?_); refine goesL_ (some 29) rfl rfl Try.func22 (by kernel_rfl) rfl #[.int .i64 x5_2] rfl (by (try simp only [List.map_toArray, List.map_cons, List.map_nil]); first | done | rfl | (simp only [List.length_drop, List.length_take]; rfl)) ?_; (with_reducible refine (ucd_Scalar.calls x5_2 true _ A6.out).mono ?_); rintro e w' ⟨rfl, ⟨nd, rfl⟩⟩; refine ⟨_, rfl, ?_⟩))
        go_ret
        exact ⟨by first | rfl | (simp [errW_none, errW_some] <;> rfl) | (simp [*, errW_none, errW_some] <;> rfl), by repeat (first | (with_reducible first | exact HB.out | apply below_alloc | apply pw_below_drewN | apply below_drew1) | exact HB.out)⟩
      · replace c7 := Bool.eq_false_iff.mpr c7
        subst c7
        have H1 : ((ucd_Assigned.f kj2 x5_2).bind fun t384 => (if t384 = true then (some false) else ((ucd_Nothing.f kj2 x5_2).bind fun t385 => (if t385 = true then (some false) else ((ucd_Space.f kj2 x5_2).bind fun t386 => (if t386 = true then (some false) else ((ucd_Prohibited.f kj2 x5_2).bind fun t387 => (if t387 = true then (some false) else ((ucd_Class.f kj2 x5_2).bind fun t388 => (if t388 = 0 then ((ucd_Canon.f x5_2).bind fun t389 => ((ucd_Compat.f x5_2).bind fun t392 => ((ucd_Fold.f x5_2).bind fun t395 => (if (wrap64 ((wrap64 ((t389.length : Int) + (t392.length : Int))) + (t395.length : Int))) = 0 then ((sobriquetlaw06_wakes.f kj2).bind fun t398 => (some t398)) else (some false))))) else (some false))))))))))) = some r := by rw [if_neg (show ¬ (false = true) by decide)] at H; exact H
        clear H
        have H := H1
        clear H1
        replace H := Option.bind_eq_some_iff.mp H
        obtain ⟨t384, A80, H⟩ := H
        replace H : (if t384 = true then (some false) else ((ucd_Nothing.f kj2 x5_2).bind fun t385 => (if t385 = true then (some false) else ((ucd_Space.f kj2 x5_2).bind fun t386 => (if t386 = true then (some false) else ((ucd_Prohibited.f kj2 x5_2).bind fun t387 => (if t387 = true then (some false) else ((ucd_Class.f kj2 x5_2).bind fun t388 => (if t388 = 0 then ((ucd_Canon.f x5_2).bind fun t389 => ((ucd_Compat.f x5_2).bind fun t392 => ((ucd_Fold.f x5_2).bind fun t395 => (if (wrap64 ((wrap64 ((t389.length : Int) + (t392.length : Int))) + (t395.length : Int))) = 0 then ((sobriquetlaw06_wakes.f kj2).bind fun t398 => (some t398)) else (some false))))) else (some false)))))))))) = some r := H
        have A8 := Aside0.mk A80
        clear A80
        by_cases c9 : t384 = true
        · subst c9
          have H1 : (some false) = some r := by rw [if_pos rfl] at H; exact H
          clear H
          have H := H1
          clear H1
          obtain rfl := Option.some.inj H
          go_wp2_with (first | ((with_reducible refine gate_callee (f := 22) rfl ?_); refine goesL_ (some 29) rfl rfl Try.func22 (by kernel_rfl) rfl #[.int .i64 x5_2] rfl (by (try simp only [List.map_toArray, List.map_cons, List.map_nil]); first | done | rfl | (simp only [List.length_drop, List.length_take]; rfl)) ?_; (with_reducible refine (ucd_Scalar.calls x5_2 false _ A6.out).mono ?_); rintro e w' ⟨rfl, ⟨nd, rfl⟩⟩; refine ⟨_, rfl, ?_⟩) | (go_at_call 15; (with_reducible refine (ucd_Assigned.calls kj2 x5_2 true _ A8.out).mono ?_); rintro e w10 ⟨rfl, hb⟩; have n0_ := Aside0.mk (below_step (by repeat (first | (with_reducible first | exact HB.out | apply below_alloc | apply pw_below_drewN | apply below_drew1) | exact HB.out)) hb); clear HB; have HB := n0_; clear n0_; (try clear hb); (try clear hb2); (try clear hk); (try clear hi)))
          go_ret
          exact ⟨by first | rfl | (simp [errW_none, errW_some] <;> rfl) | (simp [*, errW_none, errW_some] <;> rfl), by repeat (first | (with_reducible first | exact HB.out | apply below_alloc | apply pw_below_drewN | apply below_drew1) | exact HB.out)⟩
        · replace c9 := Bool.eq_false_iff.mpr c9
          subst c9
          have H1 : ((ucd_Nothing.f kj2 x5_2).bind fun t385 => (if t385 = true then (some false) else ((ucd_Space.f kj2 x5_2).bind fun t386 => (if t386 = true then (some false) else ((ucd_Prohibited.f kj2 x5_2).bind fun t387 => (if t387 = true then (some false) else ((ucd_Class.f kj2 x5_2).bind fun t388 => (if t388 = 0 then ((ucd_Canon.f x5_2).bind fun t389 => ((ucd_Compat.f x5_2).bind fun t392 => ((ucd_Fold.f x5_2).bind fun t395 => (if (wrap64 ((wrap64 ((t389.length : Int) + (t392.length : Int))) + (t395.length : Int))) = 0 then ((sobriquetlaw06_wakes.f kj2).bind fun t398 => (some t398)) else (some false))))) else (some false))))))))) = some r := by rw [if_neg (show ¬ (false = true) by decide)] at H; exact H
          clear H
          have H := H1
          clear H1
          replace H := Option.bind_eq_some_iff.mp H
          obtain ⟨t385, A110, H⟩ := H
          replace H : (if t385 = true then (some false) else ((ucd_Space.f kj2 x5_2).bind fun t386 => (if t386 = true then (some false) else ((ucd_Prohibited.f kj2 x5_2).bind fun t387 => (if t387 = true then (some false) else ((ucd_Class.f kj2 x5_2).bind fun t388 => (if t388 = 0 then ((ucd_Canon.f x5_2).bind fun t389 => ((ucd_Compat.f x5_2).bind fun t392 => ((ucd_Fold.f x5_2).bind fun t395 => (if (wrap64 ((wrap64 ((t389.length : Int) + (t392.length : Int))) + (t395.length : Int))) = 0 then ((sobriquetlaw06_wakes.f kj2).bind fun t398 => (some t398)) else (some false))))) else (some false)))))))) = some r := H
          have A11 := Aside0.mk A110
          clear A110
          by_cases c12 : t385 = true
          · subst c12
            have H1 : (some false) = some r := by rw [if_pos rfl] at H; exact H
            clear H
            have H := H1
            clear H1
            obtain rfl := Option.some.inj H
            go_wp2_with (first | ((with_reducible refine gate_callee (f := 22) rfl ?_); refine goesL_ (some 29) rfl rfl Try.func22 (by kernel_rfl) rfl #[.int .i64 x5_2] rfl (by (try simp only [List.map_toArray, List.map_cons, List.map_nil]); first | done | rfl | (simp only [List.length_drop, List.length_take]; rfl)) ?_; (with_reducible refine (ucd_Scalar.calls x5_2 false _ A6.out).mono ?_); rintro e w' ⟨rfl, ⟨nd, rfl⟩⟩; refine ⟨_, rfl, ?_⟩) | (go_at_call 15; (with_reducible refine (ucd_Assigned.calls kj2 x5_2 false _ A8.out).mono ?_); rintro e w13 ⟨rfl, hb⟩; have n0_ := Aside0.mk (below_step (by repeat (first | (with_reducible first | exact HB.out | apply below_alloc | apply pw_below_drewN | apply below_drew1) | exact HB.out)) hb); clear HB; have HB := n0_; clear n0_; (try clear hb); (try clear hb2); (try clear hk); (try clear hi)) | (go_at_call 16; (with_reducible refine (ucd_Nothing.calls kj2 x5_2 true _ A11.out).mono ?_); rintro e w14 ⟨rfl, hb⟩; have n0_ := Aside0.mk (below_step (by repeat (first | (with_reducible first | exact HB.out | apply below_alloc | apply pw_below_drewN | apply below_drew1) | exact HB.out)) hb); clear HB; have HB := n0_; clear n0_; (try clear hb); (try clear hb2); (try clear hk); (try clear hi)))
            go_ret
            exact ⟨by first | rfl | (simp [errW_none, errW_some] <;> rfl) | (simp [*, errW_none, errW_some] <;> rfl), by repeat (first | (with_reducible first | exact HB.out | apply below_alloc | apply pw_below_drewN | apply below_drew1) | exact HB.out)⟩
          · replace c12 := Bool.eq_false_iff.mpr c12
            subst c12
            have H1 : ((ucd_Space.f kj2 x5_2).bind fun t386 => (if t386 = true then (some false) else ((ucd_Prohibited.f kj2 x5_2).bind fun t387 => (if t387 = true then (some false) else ((ucd_Class.f kj2 x5_2).bind fun t388 => (if t388 = 0 then ((ucd_Canon.f x5_2).bind fun t389 => ((ucd_Compat.f x5_2).bind fun t392 => ((ucd_Fold.f x5_2).bind fun t395 => (if (wrap64 ((wrap64 ((t389.length : Int) + (t392.length : Int))) + (t395.length : Int))) = 0 then ((sobriquetlaw06_wakes.f kj2).bind fun t398 => (some t398)) else (some false))))) else (some false))))))) = some r := by rw [if_neg (show ¬ (false = true) by decide)] at H; exact H
            clear H
            have H := H1
            clear H1
            replace H := Option.bind_eq_some_iff.mp H
            obtain ⟨t386, A150, H⟩ := H
            replace H : (if t386 = true then (some false) else ((ucd_Prohibited.f kj2 x5_2).bind fun t387 => (if t387 = true then (some false) else ((ucd_Class.f kj2 x5_2).bind fun t388 => (if t388 = 0 then ((ucd_Canon.f x5_2).bind fun t389 => ((ucd_Compat.f x5_2).bind fun t392 => ((ucd_Fold.f x5_2).bind fun t395 => (if (wrap64 ((wrap64 ((t389.length : Int) + (t392.length : Int))) + (t395.length : Int))) = 0 then ((sobriquetlaw06_wakes.f kj2).bind fun t398 => (some t398)) else (some false))))) else (some false)))))) = some r := H
            have A15 := Aside0.mk A150
            clear A150
            by_cases c16 : t386 = true
            · subst c16
              have H1 : (some false) = some r := by rw [if_pos rfl] at H; exact H
              clear H
              have H := H1
              clear H1
              obtain rfl := Option.some.inj H
              go_wp2_with (first | ((with_reducible refine gate_callee (f := 22) rfl ?_); refine goesL_ (some 29) rfl rfl Try.func22 (by kernel_rfl) rfl #[.int .i64 x5_2] rfl (by (try simp only [List.map_toArray, List.map_cons, List.map_nil]); first | done | rfl | (simp only [List.length_drop, List.length_take]; rfl)) ?_; (with_reducible refine (ucd_Scalar.calls x5_2 false _ A6.out).mono ?_); rintro e w' ⟨rfl, ⟨nd, rfl⟩⟩; refine ⟨_, rfl, ?_⟩) | (go_at_call 15; (with_reducible refine (ucd_Assigned.calls kj2 x5_2 false _ A8.out).mono ?_); rintro e w17 ⟨rfl, hb⟩; have n0_ := Aside0.mk (below_step (by repeat (first | (with_reducible first | exact HB.out | apply below_alloc | apply pw_below_drewN | apply below_drew1) | exact HB.out)) hb); clear HB; have HB := n0_; clear n0_; (try clear hb); (try clear hb2); (try clear hk); (try clear hi)) | (go_at_call 16; (with_reducible refine (ucd_Nothing.calls kj2 x5_2 false _ A11.out).mono ?_); rintro e w18 ⟨rfl, hb⟩; have n0_ := Aside0.mk (below_step (by repeat (first | (with_reducible first | exact HB.out | apply below_alloc | apply pw_below_drewN | apply below_drew1) | exact HB.out)) hb); clear HB; have HB := n0_; clear n0_; (try clear hb); (try clear hb2); (try clear hk); (try clear hi)) | (go_at_call 17; (with_reducible refine (ucd_Space.calls kj2 x5_2 true _ A15.out).mono ?_); rintro e w19 ⟨rfl, hb⟩; have n0_ := Aside0.mk (below_step (by repeat (first | (with_reducible first | exact HB.out | apply below_alloc | apply pw_below_drewN | apply below_drew1) | exact HB.out)) hb); clear HB; have HB := n0_; clear n0_; (try clear hb); (try clear hb2); (try clear hk); (try clear hi)))
              go_ret
              exact ⟨by first | rfl | (simp [errW_none, errW_some] <;> rfl) | (simp [*, errW_none, errW_some] <;> rfl), by repeat (first | (with_reducible first | exact HB.out | apply below_alloc | apply pw_below_drewN | apply below_drew1) | exact HB.out)⟩
            · replace c16 := Bool.eq_false_iff.mpr c16
              subst c16
              have H1 : ((ucd_Prohibited.f kj2 x5_2).bind fun t387 => (if t387 = true then (some false) else ((ucd_Class.f kj2 x5_2).bind fun t388 => (if t388 = 0 then ((ucd_Canon.f x5_2).bind fun t389 => ((ucd_Compat.f x5_2).bind fun t392 => ((ucd_Fold.f x5_2).bind fun t395 => (if (wrap64 ((wrap64 ((t389.length : Int) + (t392.length : Int))) + (t395.length : Int))) = 0 then ((sobriquetlaw06_wakes.f kj2).bind fun t398 => (some t398)) else (some false))))) else (some false))))) = some r := by rw [if_neg (show ¬ (false = true) by decide)] at H; exact H
              clear H
              have H := H1
              clear H1
              replace H := Option.bind_eq_some_iff.mp H
              obtain ⟨t387, A200, H⟩ := H
              replace H : (if t387 = true then (some false) else ((ucd_Class.f kj2 x5_2).bind fun t388 => (if t388 = 0 then ((ucd_Canon.f x5_2).bind fun t389 => ((ucd_Compat.f x5_2).bind fun t392 => ((ucd_Fold.f x5_2).bind fun t395 => (if (wrap64 ((wrap64 ((t389.length : Int) + (t392.length : Int))) + (t395.length : Int))) = 0 then ((sobriquetlaw06_wakes.f kj2).bind fun t398 => (some t398)) else (some false))))) else (some false)))) = some r := H
              have A20 := Aside0.mk A200
              clear A200
              by_cases c21 : t387 = true
              · subst c21
                have H1 : (some false) = some r := by rw [if_pos rfl] at H; exact H
                clear H
                have H := H1
                clear H1
                obtain rfl := Option.some.inj H
                go_wp2_with (first | ((with_reducible refine gate_callee (f := 22) rfl ?_); refine goesL_ (some 29) rfl rfl Try.func22 (by kernel_rfl) rfl #[.int .i64 x5_2] rfl (by (try simp only [List.map_toArray, List.map_cons, List.map_nil]); first | done | rfl | (simp only [List.length_drop, List.length_take]; rfl)) ?_; (with_reducible refine (ucd_Scalar.calls x5_2 false _ A6.out).mono ?_); rintro e w' ⟨rfl, ⟨nd, rfl⟩⟩; refine ⟨_, rfl, ?_⟩) | (go_at_call 15; (with_reducible refine (ucd_Assigned.calls kj2 x5_2 false _ A8.out).mono ?_); rintro e w22 ⟨rfl, hb⟩; have n0_ := Aside0.mk (below_step (by repeat (first | (with_reducible first | exact HB.out | apply below_alloc | apply pw_below_drewN | apply below_drew1) | exact HB.out)) hb); clear HB; have HB := n0_; clear n0_; (try clear hb); (try clear hb2); (try clear hk); (try clear hi)) | (go_at_call 16; (with_reducible refine (ucd_Nothing.calls kj2 x5_2 false _ A11.out).mono ?_); rintro e w23 ⟨rfl, hb⟩; have n0_ := Aside0.mk (below_step (by repeat (first | (with_reducible first | exact HB.out | apply below_alloc | apply pw_below_drewN | apply below_drew1) | exact HB.out)) hb); clear HB; have HB := n0_; clear n0_; (try clear hb); (try clear hb2); (try clear hk); (try clear hi)) | (go_at_call 17; (with_reducible refine (ucd_Space.calls kj2 x5_2 false _ A15.out).mono ?_); rintro e w24 ⟨rfl, hb⟩; have n0_ := Aside0.mk (below_step (by repeat (first | (with_reducible first | exact HB.out | apply below_alloc | apply pw_below_drewN | apply below_drew1) | exact HB.out)) hb); clear HB; have HB := n0_; clear n0_; (try clear hb); (try clear hb2); (try clear hk); (try clear hi)) | (go_at_call 18; (with_reducible refine (ucd_Prohibited.calls kj2 x5_2 true _ A20.out).mono ?_); rintro e w25 ⟨rfl, hb⟩; have n0_ := Aside0.mk (below_step (by repeat (first | (with_reducible first | exact HB.out | apply below_alloc | apply pw_below_drewN | apply below_drew1) | exact HB.out)) hb); clear HB; have HB := n0_; clear n0_; (try clear hb); (try clear hb2); (try clear hk); (try clear hi)))
                go_ret
                exact ⟨by first | rfl | (simp [errW_none, errW_some] <;> rfl) | (simp [*, errW_none, errW_some] <;> rfl), by repeat (first | (with_reducible first | exact HB.out | apply below_alloc | apply pw_below_drewN | apply below_drew1) | exact HB.out)⟩
              · replace c21 := Bool.eq_false_iff.mpr c21
                subst c21
                have H1 : ((ucd_Class.f kj2 x5_2).bind fun t388 => (if t388 = 0 then ((ucd_Canon.f x5_2).bind fun t389 => ((ucd_Compat.f x5_2).bind fun t392 => ((ucd_Fold.f x5_2).bind fun t395 => (if (wrap64 ((wrap64 ((t389.length : Int) + (t392.length : Int))) + (t395.length : Int))) = 0 then ((sobriquetlaw06_wakes.f kj2).bind fun t398 => (some t398)) else (some false))))) else (some false))) = some r := by rw [if_neg (show ¬ (false = true) by decide)] at H; exact H
                clear H
                have H := H1
                clear H1
                replace H := Option.bind_eq_some_iff.mp H
                obtain ⟨t388, A260, H⟩ := H
                replace H : (if t388 = 0 then ((ucd_Canon.f x5_2).bind fun t389 => ((ucd_Compat.f x5_2).bind fun t392 => ((ucd_Fold.f x5_2).bind fun t395 => (if (wrap64 ((wrap64 ((t389.length : Int) + (t392.length : Int))) + (t395.length : Int))) = 0 then ((sobriquetlaw06_wakes.f kj2).bind fun t398 => (some t398)) else (some false))))) else (some false)) = some r := H
                have A26 := Aside0.mk A260
                clear A260
                by_cases c27 : t388 = 0
                · rw [if_pos c27] at H
                  have c27b0 : (t388 == 0) = true := beq_iff_eq.mpr c27
                  have c27b1 : (t388 != 0) = false := bne_eq_false_iff_eq.mpr c27
                  clear c27
                  replace H := Option.bind_eq_some_iff.mp H
                  obtain ⟨t389, A280, H⟩ := H
                  replace H : ((ucd_Compat.f x5_2).bind fun t392 => ((ucd_Fold.f x5_2).bind fun t395 => (if (wrap64 ((wrap64 ((t389.length : Int) + (t392.length : Int))) + (t395.length : Int))) = 0 then ((sobriquetlaw06_wakes.f kj2).bind fun t398 => (some t398)) else (some false)))) = some r := H
                  have A28 := Aside0.mk A280
                  clear A280
                  replace H := Option.bind_eq_some_iff.mp H
                  obtain ⟨t392, A290, H⟩ := H
                  replace H : ((ucd_Fold.f x5_2).bind fun t395 => (if (wrap64 ((wrap64 ((t389.length : Int) + (t392.length : Int))) + (t395.length : Int))) = 0 then ((sobriquetlaw06_wakes.f kj2).bind fun t398 => (some t398)) else (some false))) = some r := H
                  have A29 := Aside0.mk A290
                  clear A290
                  replace H := Option.bind_eq_some_iff.mp H
                  obtain ⟨t395, A300, H⟩ := H
                  replace H : (if (wrap64 ((wrap64 ((t389.length : Int) + (t392.length : Int))) + (t395.length : Int))) = 0 then ((sobriquetlaw06_wakes.f kj2).bind fun t398 => (some t398)) else (some false)) = some r := H
                  have A30 := Aside0.mk A300
                  clear A300
                  by_cases c31 : (wrap64 ((wrap64 ((t389.length : Int) + (t392.length : Int))) + (t395.length : Int))) = 0
                  · rw [if_pos c31] at H
                    have c31b0 : ((wrap64 ((wrap64 ((t389.length : Int) + (t392.length : Int))) + (t395.length : Int))) == 0) = true := beq_iff_eq.mpr c31
                    have c31b1 : ((wrap64 ((wrap64 ((t389.length : Int) + (t392.length : Int))) + (t395.length : Int))) != 0) = false := bne_eq_false_iff_eq.mpr c31
                    clear c31
                    replace H := Option.bind_eq_some_iff.mp H
                    obtain ⟨t398, A320, H⟩ := H
                    replace H : (some t398) = some r := H
                    have A32 := Aside0.mk A320
                    clear A320
                    obtain rfl := Option.some.inj H
                    go_wp2_with (first | ((with_reducible refine gate_callee (f := 22) rfl ?_); refine goesL_ (some 29) rfl rfl Try.func22 (by kernel_rfl) rfl #[.int .i64 x5_2] rfl (by (try simp only [List.map_toArray, List.map_cons, List.map_nil]); first | done | rfl | (simp only [List.length_drop, List.length_take]; rfl)) ?_; (with_reducible refine (ucd_Scalar.calls x5_2 false _ A6.out).mono ?_); rintro e w' ⟨rfl, ⟨nd, rfl⟩⟩; refine ⟨_, rfl, ?_⟩) | (go_at_call 15; (with_reducible refine (ucd_Assigned.calls kj2 x5_2 false _ A8.out).mono ?_); rintro e w33 ⟨rfl, hb⟩; have n0_ := Aside0.mk (below_step (by repeat (first | (with_reducible first | exact HB.out | apply below_alloc | apply pw_below_drewN | apply below_drew1) | exact HB.out)) hb); clear HB; have HB := n0_; clear n0_; (try clear hb); (try clear hb2); (try clear hk); (try clear hi)) | (go_at_call 16; (with_reducible refine (ucd_Nothing.calls kj2 x5_2 false _ A11.out).mono ?_); rintro e w34 ⟨rfl, hb⟩; have n0_ := Aside0.mk (below_step (by repeat (first | (with_reducible first | exact HB.out | apply below_alloc | apply pw_below_drewN | apply below_drew1) | exact HB.out)) hb); clear HB; have HB := n0_; clear n0_; (try clear hb); (try clear hb2); (try clear hk); (try clear hi)) | (go_at_call 17; (with_reducible refine (ucd_Space.calls kj2 x5_2 false _ A15.out).mono ?_); rintro e w35 ⟨rfl, hb⟩; have n0_ := Aside0.mk (below_step (by repeat (first | (with_reducible first | exact HB.out | apply below_alloc | apply pw_below_drewN | apply below_drew1) | exact HB.out)) hb); clear HB; have HB := n0_; clear n0_; (try clear hb); (try clear hb2); (try clear hk); (try clear hi)) | (go_at_call 18; (with_reducible refine (ucd_Prohibited.calls kj2 x5_2 false _ A20.out).mono ?_); rintro e w36 ⟨rfl, hb⟩; have n0_ := Aside0.mk (below_step (by repeat (first | (with_reducible first | exact HB.out | apply below_alloc | apply pw_below_drewN | apply below_drew1) | exact HB.out)) hb); clear HB; have HB := n0_; clear n0_; (try clear hb); (try clear hb2); (try clear hk); (try clear hi)) | (go_at_call 13; (with_reducible refine (ucd_Class.calls kj2 x5_2 t388 _ A26.out).mono ?_); rintro e w37 ⟨rfl, hb⟩; have n0_ := Aside0.mk (below_step (by repeat (first | (with_reducible first | exact HB.out | apply below_alloc | apply pw_below_drewN | apply below_drew1) | exact HB.out)) hb); clear HB; have HB := n0_; clear n0_; (try clear hb); (try clear hb2); (try clear hk); (try clear hi)) | (go_at_call 20; (with_reducible refine (ucd_Canon.calls x5_2 t389 _ A28.out).mono ?_); rintro e w38 ⟨v390, rfl, ho0, hb⟩; have n0_ := Aside0.mk (Kd.R_lower ho0 (below_size (by repeat (first | (with_reducible first | exact HB.out | apply below_alloc | apply pw_below_drewN | apply below_drew1) | exact HB.out)))); have n1_ := Aside0.mk (below_step (by repeat (first | (with_reducible first | exact HB.out | apply below_alloc | apply pw_below_drewN | apply below_drew1) | exact HB.out)) hb); clear HB; have HO391 := n0_; have HB := n1_; clear n0_ n1_; (try clear hb); (try clear hb2); (try clear hk); (try clear hi); (try clear ho0); obtain ⟨Ao39, co39, eo39⟩ := Kd.R_slice HO391.out; subst eo39) | (go_at_call 23; (with_reducible refine (ucd_Compat.calls x5_2 t392 _ A29.out).mono ?_); rintro e w40 ⟨v393, rfl, ho0, hb⟩; have n0_ := Aside0.mk (Kd.R_elder' (by (with_reducible repeat (first | apply Kd.R_alloc | apply Kd.R_drewN | apply Kd.R_drew)); exact HO391.out) (Kd.R_base ho0) hb); have n1_ := Aside0.mk (Kd.R_lower (Kd.R_new' ho0 (Kd.R_lt (by (with_reducible repeat (first | apply Kd.R_alloc | apply Kd.R_drewN | apply Kd.R_drew)); exact HO391.out))) (below_size (by repeat (first | (with_reducible first | exact HB.out | apply below_alloc | apply pw_below_drewN | apply below_drew1) | exact HB.out)))); have n2_ := Aside0.mk (below_step (by repeat (first | (with_reducible first | exact HB.out | apply below_alloc | apply pw_below_drewN | apply below_drew1) | exact HB.out)) hb); clear HO391; clear HB; have HO391 := n0_; have HO394 := n1_; have HB := n2_; clear n0_ n1_ n2_; (try clear hb); (try clear hb2); (try clear hk); (try clear hi); (try clear ho0); obtain ⟨Ao41, co41, eo41⟩ := Kd.R_slice HO394.out; subst eo41) | (go_at_call 27; (with_reducible refine (ucd_Fold.calls x5_2 t395 _ A30.out).mono ?_); rintro e w42 ⟨v396, rfl, ho0, hb⟩; have n0_ := Aside0.mk (Kd.R_elder' (by (with_reducible repeat (first | apply Kd.R_alloc | apply Kd.R_drewN | apply Kd.R_drew)); exact HO391.out) (Kd.R_base ho0) hb); have n1_ := Aside0.mk (Kd.R_elder' (by (with_reducible repeat (first | apply Kd.R_alloc | apply Kd.R_drewN | apply Kd.R_drew)); exact HO394.out) (Kd.R_base ho0) hb); have n2_ := Aside0.mk (Kd.R_lower (Kd.R_new' (Kd.R_new' ho0 (Kd.R_lt (by (with_reducible repeat (first | apply Kd.R_alloc | apply Kd.R_drewN | apply Kd.R_drew)); exact HO391.out))) (Kd.R_lt (by (with_reducible repeat (first | apply Kd.R_alloc | apply Kd.R_drewN | apply Kd.R_drew)); exact HO394.out))) (below_size (by repeat (first | (with_reducible first | exact HB.out | apply below_alloc | apply pw_below_drewN | apply below_drew1) | exact HB.out)))); have n3_ := Aside0.mk (below_step (by repeat (first | (with_reducible first | exact HB.out | apply below_alloc | apply pw_below_drewN | apply below_drew1) | exact HB.out)) hb); clear HO391; clear HO394; clear HB; have HO391 := n0_; have HO394 := n1_; have HO397 := n2_; have HB := n3_; clear n0_ n1_ n2_ n3_; (try clear hb); (try clear hb2); (try clear hk); (try clear hi); (try clear ho0); obtain ⟨Ao43, co43, eo43⟩ := Kd.R_slice HO397.out; subst eo43) | (go_at_call 14; (with_reducible refine (sobriquetlaw06_wakes.calls kj2  t398 _ A32.out).mono ?_); rintro e w44 ⟨rfl, hb⟩; have n0_ := Aside0.mk (Kd.R_below (by (with_reducible repeat (first | apply Kd.R_alloc | apply Kd.R_drewN | apply Kd.R_drew)); exact HO391.out) hb); have n1_ := Aside0.mk (Kd.R_below (by (with_reducible repeat (first | apply Kd.R_alloc | apply Kd.R_drewN | apply Kd.R_drew)); exact HO394.out) hb); have n2_ := Aside0.mk (Kd.R_below (by (with_reducible repeat (first | apply Kd.R_alloc | apply Kd.R_drewN | apply Kd.R_drew)); exact HO397.out) hb); have n3_ := Aside0.mk (below_step (by repeat (first | (with_reducible first | exact HB.out | apply below_alloc | apply pw_below_drewN | apply below_drew1) | exact HB.out)) hb); clear HO391; clear HO394; clear HO397; clear HB; have HO391 := n0_; have HO394 := n1_; have HO397 := n2_; have HB := n3_; clear n0_ n1_ n2_ n3_; (try clear hb); (try clear hb2); (try clear hk); (try clear hi)))
                    go_ret
                    exact ⟨by first | rfl | (simp [errW_none, errW_some] <;> rfl) | (simp [*, errW_none, errW_some] <;> rfl), by repeat (first | (with_reducible first | exact HB.out | apply below_alloc | apply pw_below_drewN | apply below_drew1) | exact HB.out)⟩
                  · rw [if_neg c31] at H
                    have c31b0 : ((wrap64 ((wrap64 ((t389.length : Int) + (t392.length : Int))) + (t395.length : Int))) == 0) = false := beq_eq_false_iff_ne.mpr c31
                    have c31b1 : ((wrap64 ((wrap64 ((t389.length : Int) + (t392.length : Int))) + (t395.length : Int))) != 0) = true := bne_iff_ne.mpr c31
                    obtain rfl := Option.some.inj H
                    go_wp2_with (first | ((with_reducible refine gate_callee (f := 22) rfl ?_); refine goesL_ (some 29) rfl rfl Try.func22 (by kernel_rfl) rfl #[.int .i64 x5_2] rfl (by (try simp only [List.map_toArray, List.map_cons, List.map_nil]); first | done | rfl | (simp only [List.length_drop, List.length_take]; rfl)) ?_; (with_reducible refine (ucd_Scalar.calls x5_2 false _ A6.out).mono ?_); rintro e w' ⟨rfl, ⟨nd, rfl⟩⟩; refine ⟨_, rfl, ?_⟩) | (go_at_call 15; (with_reducible refine (ucd_Assigned.calls kj2 x5_2 false _ A8.out).mono ?_); rintro e w45 ⟨rfl, hb⟩; have n0_ := Aside0.mk (below_step (by repeat (first | (with_reducible first | exact HB.out | apply below_alloc | apply pw_below_drewN | apply below_drew1) | exact HB.out)) hb); clear HB; have HB := n0_; clear n0_; (try clear hb); (try clear hb2); (try clear hk); (try clear hi)) | (go_at_call 16; (with_reducible refine (ucd_Nothing.calls kj2 x5_2 false _ A11.out).mono ?_); rintro e w46 ⟨rfl, hb⟩; have n0_ := Aside0.mk (below_step (by repeat (first | (with_reducible first | exact HB.out | apply below_alloc | apply pw_below_drewN | apply below_drew1) | exact HB.out)) hb); clear HB; have HB := n0_; clear n0_; (try clear hb); (try clear hb2); (try clear hk); (try clear hi)) | (go_at_call 17; (with_reducible refine (ucd_Space.calls kj2 x5_2 false _ A15.out).mono ?_); rintro e w47 ⟨rfl, hb⟩; have n0_ := Aside0.mk (below_step (by repeat (first | (with_reducible first | exact HB.out | apply below_alloc | apply pw_below_drewN | apply below_drew1) | exact HB.out)) hb); clear HB; have HB := n0_; clear n0_; (try clear hb); (try clear hb2); (try clear hk); (try clear hi)) | (go_at_call 18; (with_reducible refine (ucd_Prohibited.calls kj2 x5_2 false _ A20.out).mono ?_); rintro e w48 ⟨rfl, hb⟩; have n0_ := Aside0.mk (below_step (by repeat (first | (with_reducible first | exact HB.out | apply below_alloc | apply pw_below_drewN | apply below_drew1) | exact HB.out)) hb); clear HB; have HB := n0_; clear n0_; (try clear hb); (try clear hb2); (try clear hk); (try clear hi)) | (go_at_call 13; (with_reducible refine (ucd_Class.calls kj2 x5_2 t388 _ A26.out).mono ?_); rintro e w49 ⟨rfl, hb⟩; have n0_ := Aside0.mk (below_step (by repeat (first | (with_reducible first | exact HB.out | apply below_alloc | apply pw_below_drewN | apply below_drew1) | exact HB.out)) hb); clear HB; have HB := n0_; clear n0_; (try clear hb); (try clear hb2); (try clear hk); (try clear hi)) | (go_at_call 20; (with_reducible refine (ucd_Canon.calls x5_2 t389 _ A28.out).mono ?_); rintro e w50 ⟨v390, rfl, ho0, hb⟩; have n0_ := Aside0.mk (Kd.R_lower ho0 (below_size (by repeat (first | (with_reducible first | exact HB.out | apply below_alloc | apply pw_below_drewN | apply below_drew1) | exact HB.out)))); have n1_ := Aside0.mk (below_step (by repeat (first | (with_reducible first | exact HB.out | apply below_alloc | apply pw_below_drewN | apply below_drew1) | exact HB.out)) hb); clear HB; have HO391 := n0_; have HB := n1_; clear n0_ n1_; (try clear hb); (try clear hb2); (try clear hk); (try clear hi); (try clear ho0); obtain ⟨Ao51, co51, eo51⟩ := Kd.R_slice HO391.out; subst eo51) | (go_at_call 23; (with_reducible refine (ucd_Compat.calls x5_2 t392 _ A29.out).mono ?_); rintro e w52 ⟨v393, rfl, ho0, hb⟩; have n0_ := Aside0.mk (Kd.R_elder' (by (with_reducible repeat (first | apply Kd.R_alloc | apply Kd.R_drewN | apply Kd.R_drew)); exact HO391.out) (Kd.R_base ho0) hb); have n1_ := Aside0.mk (Kd.R_lower (Kd.R_new' ho0 (Kd.R_lt (by (with_reducible repeat (first | apply Kd.R_alloc | apply Kd.R_drewN | apply Kd.R_drew)); exact HO391.out))) (below_size (by repeat (first | (with_reducible first | exact HB.out | apply below_alloc | apply pw_below_drewN | apply below_drew1) | exact HB.out)))); have n2_ := Aside0.mk (below_step (by repeat (first | (with_reducible first | exact HB.out | apply below_alloc | apply pw_below_drewN | apply below_drew1) | exact HB.out)) hb); clear HO391; clear HB; have HO391 := n0_; have HO394 := n1_; have HB := n2_; clear n0_ n1_ n2_; (try clear hb); (try clear hb2); (try clear hk); (try clear hi); (try clear ho0); obtain ⟨Ao53, co53, eo53⟩ := Kd.R_slice HO394.out; subst eo53) | (go_at_call 27; (with_reducible refine (ucd_Fold.calls x5_2 t395 _ A30.out).mono ?_); rintro e w54 ⟨v396, rfl, ho0, hb⟩; have n0_ := Aside0.mk (Kd.R_elder' (by (with_reducible repeat (first | apply Kd.R_alloc | apply Kd.R_drewN | apply Kd.R_drew)); exact HO391.out) (Kd.R_base ho0) hb); have n1_ := Aside0.mk (Kd.R_elder' (by (with_reducible repeat (first | apply Kd.R_alloc | apply Kd.R_drewN | apply Kd.R_drew)); exact HO394.out) (Kd.R_base ho0) hb); have n2_ := Aside0.mk (Kd.R_lower (Kd.R_new' (Kd.R_new' ho0 (Kd.R_lt (by (with_reducible repeat (first | apply Kd.R_alloc | apply Kd.R_drewN | apply Kd.R_drew)); exact HO391.out))) (Kd.R_lt (by (with_reducible repeat (first | apply Kd.R_alloc | apply Kd.R_drewN | apply Kd.R_drew)); exact HO394.out))) (below_size (by repeat (first | (with_reducible first | exact HB.out | apply below_alloc | apply pw_below_drewN | apply below_drew1) | exact HB.out)))); have n3_ := Aside0.mk (below_step (by repeat (first | (with_reducible first | exact HB.out | apply below_alloc | apply pw_below_drewN | apply below_drew1) | exact HB.out)) hb); clear HO391; clear HO394; clear HB; have HO391 := n0_; have HO394 := n1_; have HO397 := n2_; have HB := n3_; clear n0_ n1_ n2_ n3_; (try clear hb); (try clear hb2); (try clear hk); (try clear hi); (try clear ho0); obtain ⟨Ao55, co55, eo55⟩ := Kd.R_slice HO397.out; subst eo55))
                    go_ret
                    exact ⟨by first | rfl | (simp [errW_none, errW_some] <;> rfl) | (simp [*, errW_none, errW_some] <;> rfl), by repeat (first | (with_reducible first | exact HB.out | apply below_alloc | apply pw_below_drewN | apply below_drew1) | exact HB.out)⟩
                · rw [if_neg c27] at H
                  have c27b0 : (t388 == 0) = false := beq_eq_false_iff_ne.mpr c27
                  have c27b1 : (t388 != 0) = true := bne_iff_ne.mpr c27
                  obtain rfl := Option.some.inj H
                  go_wp2_with (first | ((with_reducible refine gate_callee (f := 22) rfl ?_); refine goesL_ (some 29) rfl rfl Try.func22 (by kernel_rfl) rfl #[.int .i64 x5_2] rfl (by (try simp only [List.map_toArray, List.map_cons, List.map_nil]); first | done | rfl | (simp only [List.length_drop, List.length_take]; rfl)) ?_; (with_reducible refine (ucd_Scalar.calls x5_2 false _ A6.out).mono ?_); rintro e w' ⟨rfl, ⟨nd, rfl⟩⟩; refine ⟨_, rfl, ?_⟩) | (go_at_call 15; (with_reducible refine (ucd_Assigned.calls kj2 x5_2 false _ A8.out).mono ?_); rintro e w56 ⟨rfl, hb⟩; have n0_ := Aside0.mk (below_step (by repeat (first | (with_reducible first | exact HB.out | apply below_alloc | apply pw_below_drewN | apply below_drew1) | exact HB.out)) hb); clear HB; have HB := n0_; clear n0_; (try clear hb); (try clear hb2); (try clear hk); (try clear hi)) | (go_at_call 16; (with_reducible refine (ucd_Nothing.calls kj2 x5_2 false _ A11.out).mono ?_); rintro e w57 ⟨rfl, hb⟩; have n0_ := Aside0.mk (below_step (by repeat (first | (with_reducible first | exact HB.out | apply below_alloc | apply pw_below_drewN | apply below_drew1) | exact HB.out)) hb); clear HB; have HB := n0_; clear n0_; (try clear hb); (try clear hb2); (try clear hk); (try clear hi)) | (go_at_call 17; (with_reducible refine (ucd_Space.calls kj2 x5_2 false _ A15.out).mono ?_); rintro e w58 ⟨rfl, hb⟩; have n0_ := Aside0.mk (below_step (by repeat (first | (with_reducible first | exact HB.out | apply below_alloc | apply pw_below_drewN | apply below_drew1) | exact HB.out)) hb); clear HB; have HB := n0_; clear n0_; (try clear hb); (try clear hb2); (try clear hk); (try clear hi)) | (go_at_call 18; (with_reducible refine (ucd_Prohibited.calls kj2 x5_2 false _ A20.out).mono ?_); rintro e w59 ⟨rfl, hb⟩; have n0_ := Aside0.mk (below_step (by repeat (first | (with_reducible first | exact HB.out | apply below_alloc | apply pw_below_drewN | apply below_drew1) | exact HB.out)) hb); clear HB; have HB := n0_; clear n0_; (try clear hb); (try clear hb2); (try clear hk); (try clear hi)) | (go_at_call 13; (with_reducible refine (ucd_Class.calls kj2 x5_2 t388 _ A26.out).mono ?_); rintro e w60 ⟨rfl, hb⟩; have n0_ := Aside0.mk (below_step (by repeat (first | (with_reducible first | exact HB.out | apply below_alloc | apply pw_below_drewN | apply below_drew1) | exact HB.out)) hb); clear HB; have HB := n0_; clear n0_; (try clear hb); (try clear hb2); (try clear hk); (try clear hi)))
                  go_ret
                  exact ⟨by first | rfl | (simp [errW_none, errW_some] <;> rfl) | (simp [*, errW_none, errW_some] <;> rfl), by repeat (first | (with_reducible first | exact HB.out | apply below_alloc | apply pw_below_drewN | apply below_drew1) | exact HB.out)⟩

/-- THE ONE PURE STATEMENT of sobriquetlaw06_UcdNone: yours. -/
def sobriquetlaw06_UcdNone.Pure : Prop := ∀ (a0 : Int) (a1 : Int), (Lit.int .i64 a0).wf = true → (Lit.int .i64 a1).wf = true → ∃ k, sobriquetlaw06_UcdNone.f k a0 a1 = some true
theorem sobriquetlaw06_UcdNone.walk (P : sobriquetlaw06_UcdNone.Pure) (a0 : Int) (a1 : Int) (w : World) (w0 : (Lit.int .i64 a0).wf = true) (w1 : (Lit.int .i64 a1).wf = true) :
    Calls Try.prog 7 #[.int .i64 a0, .int .i64 a1] w fun e w' => e = .returned (.bool true) ∧ Below w.heap.size w w' := by
  obtain ⟨k, h⟩ := P a0 a1 w0 w1
  refine (sobriquetlaw06_UcdNone.calls k a0 a1 true w h).mono ?_
  rintro e w' ⟨rfl, hd⟩
  exact ⟨rfl, hd⟩

end Go.Proofs.Ytimpcabimncnfaa.M
