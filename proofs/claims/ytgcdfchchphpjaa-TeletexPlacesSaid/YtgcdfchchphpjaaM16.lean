-- Written by wip/prn.py of this session out of the translation (function by function); Lean checks it.
-- squeezed
import Derived.Test.YtgcdfchchphpjaaM0
import Derived.Test.YtgcdfchchphpjaaM1
import Derived.Test.YtgcdfchchphpjaaM10
import Derived.Test.YtgcdfchchphpjaaM11
import Derived.Test.YtgcdfchchphpjaaM15
import Derived.Test.YtgcdfchchphpjaaHCodes
import Derived.Test.YtgcdfchchphpjaaHWakes18
namespace Go.Proofs.Ytgcdfchchphpjaa.M
open Go.RowKit Go.Proofs.YtgcdfchchphpjaaW.PrintWords Go.Proofs.YtgcdfchchphpjaaW.PrintLast Go.Proofs.YtgcdfchchphpjaaW.PrintMore
attribute [local go_sem] max2_int min2_int max_two min_two max_three min_three max_four min_four   -- for this text's walks alone
set_option linter.unusedVariables false
set_option linter.unusedSimpArgs false

/-! ### sobriquetlaw18_TeletexPlaces: function 6 -/
mutual
def sobriquetlaw18_TeletexPlaces.j0 : Nat → Int → List Int → List Int → Int → Int → Int → Option (Bool)
 | 0, _, _, _, _, _, _ => none
 | k + 1, x2, x9, x11, x413000, x413001, x413002 => (sobriquetkeep_Twin.f x9).bind fun t439 => (if t439.length + x11.length < 140737488355328 then ((teletex_Read.f k (t439 ++ x11)).bind fun bt445 => (if bt445.2.2 = 0 then ((sobriquetkeep_Ints.f k bt445.1 (([x413002] : List Int))).bind fun t453 => (sobriquetlaw18_TeletexPlaces.j1 k x2 x9 (!t453) x413000 x413001 x413002)) else (sobriquetlaw18_TeletexPlaces.j1 k x2 x9 true x413000 x413001 x413002))) else (none))
def sobriquetlaw18_TeletexPlaces.j1 : Nat → Int → List Int → Bool → Int → Int → Int → Option (Bool)
 | 0, _, _, _, _, _, _ => none
 | k + 1, x2, x9, x85, x413000, x413001, x413002 => if x85 = true then (some false) else ((csets_Wide.f x413000).bind fun t454 => (if t454 = true then (sobriquetlaw18_TeletexPlaces.j2 k (wrap64 (33 + (wrap64 (Int.tmod (IntKind.u64.wrap (x2)) 94)))) x9 true x413000 x413001 x413002) else (sobriquetlaw18_TeletexPlaces.j2 k (wrap64 (33 + (wrap64 (Int.tmod (IntKind.u64.wrap (x2)) 94)))) x9 (x413000 == 103) x413000 x413001 x413002)))
def sobriquetlaw18_TeletexPlaces.j2 : Nat → Int → List Int → Bool → Int → Int → Int → Option (Bool)
 | 0, _, _, _, _, _, _ => none
 | k + 1, x2, x9, x98, x413000, x413001, x413002 => if x98 = true then ((sobriquetlaw18_wakes.f).bind fun t455 => (some t455)) else ((csets_Get.f k x413000 x2).bind fun bt456 => (if bt456.2 = true then ((sobriquetlaw18_wakes.f).bind fun t458 => (some t458)) else (if x9.length < 140737488355328 then ((teletex_Read.f k (x9 ++ [(x2) % 256])).bind fun bt462 => (if bt462.2.2 = 13 then ((sobriquetlaw18_wakes.f).bind fun t467 => (some t467)) else (some false))) else (none))))
end
def sobriquetlaw18_TeletexPlaces.f (k : Nat) (a0 : Int) (a1 : Int) (a2 : Int) : Option (Bool) := (api_Codes.f).bind fun t408 => (if (t408.length : Int) = 0 then (some false) else (if (IntKind.u64.wrap ((t408.length : Int))) = 0 then (none) else (if 0 ≤ (wrap64 (Int.tmod (IntKind.u64.wrap (a0)) (IntKind.u64.wrap ((t408.length : Int))))) then (if (wrap64 (Int.tmod (IntKind.u64.wrap (a0)) (IntKind.u64.wrap ((t408.length : Int))))) < (t408.length : Int) then ((sobriquetref13_Escape.f (wrap64 (Int.tmod (IntKind.u64.wrap (a1)) 4)) ((rd_T38 t408 (wrap64 (Int.tmod (IntKind.u64.wrap (a0)) (IntKind.u64.wrap ((t408.length : Int)))))).f0)).bind fun t413 => ((some (([[], (([14] : List Int)), (([27, 110] : List Int)), (([27, 111] : List Int))] : List (List Int)) : List (List Int))).bind fun y425 => (if 0 ≤ (wrap64 (Int.tmod (IntKind.u64.wrap (a1)) 4)) then (if (wrap64 (Int.tmod (IntKind.u64.wrap (a1)) 4)) < (y425.length : Int) then (if t413.length + (rd_L12 y425 (wrap64 (Int.tmod (IntKind.u64.wrap (a1)) 4))).length < 140737488355328 then ((some (t413 ++ (rd_L12 y425 (wrap64 (Int.tmod (IntKind.u64.wrap (a1)) 4))) : List Int)).bind fun y429 => ((csets_Wide.f ((rd_T38 t408 (wrap64 (Int.tmod (IntKind.u64.wrap (a0)) (IntKind.u64.wrap ((t408.length : Int)))))).f0)).bind fun t435 => (if t435 = true then (sobriquetlaw18_TeletexPlaces.j0 k a2 y429 (([(wrap64 (Int.tdiv ((rd_T38 t408 (wrap64 (Int.tmod (IntKind.u64.wrap (a0)) (IntKind.u64.wrap ((t408.length : Int)))))).f1) 256)) % 256, ((rd_T38 t408 (wrap64 (Int.tmod (IntKind.u64.wrap (a0)) (IntKind.u64.wrap ((t408.length : Int)))))).f1) % 256] : List Int)) ((rd_T38 t408 (wrap64 (Int.tmod (IntKind.u64.wrap (a0)) (IntKind.u64.wrap ((t408.length : Int)))))).f0) ((rd_T38 t408 (wrap64 (Int.tmod (IntKind.u64.wrap (a0)) (IntKind.u64.wrap ((t408.length : Int)))))).f1) ((rd_T38 t408 (wrap64 (Int.tmod (IntKind.u64.wrap (a0)) (IntKind.u64.wrap ((t408.length : Int)))))).f2)) else (sobriquetlaw18_TeletexPlaces.j0 k a2 y429 (([((rd_T38 t408 (wrap64 (Int.tmod (IntKind.u64.wrap (a0)) (IntKind.u64.wrap ((t408.length : Int)))))).f1) % 256] : List Int)) ((rd_T38 t408 (wrap64 (Int.tmod (IntKind.u64.wrap (a0)) (IntKind.u64.wrap ((t408.length : Int)))))).f0) ((rd_T38 t408 (wrap64 (Int.tmod (IntKind.u64.wrap (a0)) (IntKind.u64.wrap ((t408.length : Int)))))).f1) ((rd_T38 t408 (wrap64 (Int.tmod (IntKind.u64.wrap (a0)) (IntKind.u64.wrap ((t408.length : Int)))))).f2))))) else (none)) else (none)) else (none)))) else (none)) else (none))))
theorem sobriquetlaw18_TeletexPlaces.mono_l : ∀ k, (∀ y0 y1 y2 y3 y4 y5, LeO (sobriquetlaw18_TeletexPlaces.j0 k y0 y1 y2 y3 y4 y5) (sobriquetlaw18_TeletexPlaces.j0 (k + 1) y0 y1 y2 y3 y4 y5)) ∧ (∀ y0 y1 y2 y3 y4 y5, LeO (sobriquetlaw18_TeletexPlaces.j1 k y0 y1 y2 y3 y4 y5) (sobriquetlaw18_TeletexPlaces.j1 (k + 1) y0 y1 y2 y3 y4 y5)) ∧ (∀ y0 y1 y2 y3 y4 y5, LeO (sobriquetlaw18_TeletexPlaces.j2 k y0 y1 y2 y3 y4 y5) (sobriquetlaw18_TeletexPlaces.j2 (k + 1) y0 y1 y2 y3 y4 y5))
 | 0 => ⟨fun _ _ _ _ _ _ r h => by simp [sobriquetlaw18_TeletexPlaces.j0] at h, fun _ _ _ _ _ _ r h => by simp [sobriquetlaw18_TeletexPlaces.j1] at h, fun _ _ _ _ _ _ r h => by simp [sobriquetlaw18_TeletexPlaces.j2] at h⟩
 | k + 1 => by
  obtain ⟨ih0, ih1, ih2⟩ := sobriquetlaw18_TeletexPlaces.mono_l k
  refine ⟨?_, ?_, ?_⟩
  ·intro y0 y1 y2 y3 y4 y5
   unfold sobriquetlaw18_TeletexPlaces.j0
   repeat' first
   | (with_reducible exact ih0 _ _ _ _ _ _)
   | (with_reducible exact ih1 _ _ _ _ _ _)
   | (with_reducible exact ih2 _ _ _ _ _ _)
   | (with_reducible exact csets_Get.mono _ _ _)
   | (with_reducible exact sobriquetkeep_Ints.mono _ _ _)
   | (with_reducible exact teletex_Read.mono _ _)
   | (with_reducible exact LeO.refl _)
   | (with_reducible exact LeO.none _)
   | (with_reducible refine LeO.ite ?_ ?_)
   | (with_reducible refine LeO.bind ?_ (fun _ => ?_))
   | exact ih0 _ _ _ _ _ _
   | exact ih1 _ _ _ _ _ _
   | exact ih2 _ _ _ _ _ _
   | exact csets_Get.mono _ _ _
   | exact sobriquetkeep_Ints.mono _ _ _
   | exact teletex_Read.mono _ _
   | exact LeO.none _
   | refine LeO.ite ?_ ?_
   | refine LeO.bind ?_ (fun _ => ?_)
  ·intro y0 y1 y2 y3 y4 y5
   unfold sobriquetlaw18_TeletexPlaces.j1
   repeat' first
   | (with_reducible exact ih0 _ _ _ _ _ _)
   | (with_reducible exact ih1 _ _ _ _ _ _)
   | (with_reducible exact ih2 _ _ _ _ _ _)
   | (with_reducible exact csets_Get.mono _ _ _)
   | (with_reducible exact sobriquetkeep_Ints.mono _ _ _)
   | (with_reducible exact teletex_Read.mono _ _)
   | (with_reducible exact LeO.refl _)
   | (with_reducible exact LeO.none _)
   | (with_reducible refine LeO.ite ?_ ?_)
   | (with_reducible refine LeO.bind ?_ (fun _ => ?_))
   | exact ih0 _ _ _ _ _ _
   | exact ih1 _ _ _ _ _ _
   | exact ih2 _ _ _ _ _ _
   | exact csets_Get.mono _ _ _
   | exact sobriquetkeep_Ints.mono _ _ _
   | exact teletex_Read.mono _ _
   | exact LeO.none _
   | refine LeO.ite ?_ ?_
   | refine LeO.bind ?_ (fun _ => ?_)
  ·intro y0 y1 y2 y3 y4 y5
   unfold sobriquetlaw18_TeletexPlaces.j2
   repeat' first
   | (with_reducible exact ih0 _ _ _ _ _ _)
   | (with_reducible exact ih1 _ _ _ _ _ _)
   | (with_reducible exact ih2 _ _ _ _ _ _)
   | (with_reducible exact csets_Get.mono _ _ _)
   | (with_reducible exact sobriquetkeep_Ints.mono _ _ _)
   | (with_reducible exact teletex_Read.mono _ _)
   | (with_reducible exact LeO.refl _)
   | (with_reducible exact LeO.none _)
   | (with_reducible refine LeO.ite ?_ ?_)
   | (with_reducible refine LeO.bind ?_ (fun _ => ?_))
   | exact ih0 _ _ _ _ _ _
   | exact ih1 _ _ _ _ _ _
   | exact ih2 _ _ _ _ _ _
   | exact csets_Get.mono _ _ _
   | exact sobriquetkeep_Ints.mono _ _ _
   | exact teletex_Read.mono _ _
   | exact LeO.none _
   | refine LeO.ite ?_ ?_
   | refine LeO.bind ?_ (fun _ => ?_)
theorem sobriquetlaw18_TeletexPlaces.mono : ∀ a0 a1 a2 k, LeO (sobriquetlaw18_TeletexPlaces.f k a0 a1 a2) (sobriquetlaw18_TeletexPlaces.f (k + 1) a0 a1 a2) := by
 intro a0 a1 a2 k
 obtain ⟨ih0, ih1, ih2⟩ := sobriquetlaw18_TeletexPlaces.mono_l k
 unfold sobriquetlaw18_TeletexPlaces.f
 repeat' first
   | (with_reducible exact ih0 _ _ _ _ _ _)
   | (with_reducible exact ih1 _ _ _ _ _ _)
   | (with_reducible exact ih2 _ _ _ _ _ _)
   | (with_reducible exact csets_Get.mono _ _ _)
   | (with_reducible exact sobriquetkeep_Ints.mono _ _ _)
   | (with_reducible exact teletex_Read.mono _ _)
   | (with_reducible exact LeO.refl _)
   | (with_reducible exact LeO.none _)
   | (with_reducible refine LeO.ite ?_ ?_)
   | (with_reducible refine LeO.bind ?_ (fun _ => ?_))
   | exact ih0 _ _ _ _ _ _
   | exact ih1 _ _ _ _ _ _
   | exact ih2 _ _ _ _ _ _
   | exact csets_Get.mono _ _ _
   | exact sobriquetkeep_Ints.mono _ _ _
   | exact teletex_Read.mono _ _
   | exact LeO.none _
   | refine LeO.ite ?_ ?_
   | refine LeO.bind ?_ (fun _ => ?_)
set_option maxHeartbeats 8000000 in
set_option maxRecDepth 100000 in
theorem sobriquetlaw18_TeletexPlaces.calls (k : Nat) (a0 : Int) (a1 : Int) (a2 : Int) (r : Bool) (w : World) (h : sobriquetlaw18_TeletexPlaces.f k a0 a1 a2 = some r) :
  Calls Try.prog 6 #[.int .i64 a0, .int .i64 a1, .int .i64 a2] w fun e w' => e = .returned (.bool r) ∧ Below w.heap.size w w' := by
 have hu38 := Try.underlying38
 have HB := Aside0.mk (Below.refl w.heap.size w)
 have H : ((api_Codes.f).bind fun t408 => (if (t408.length : Int) = 0 then (some false) else (if (IntKind.u64.wrap ((t408.length : Int))) = 0 then (none) else (if 0 ≤ (wrap64 (Int.tmod (IntKind.u64.wrap (a0)) (IntKind.u64.wrap ((t408.length : Int))))) then (if (wrap64 (Int.tmod (IntKind.u64.wrap (a0)) (IntKind.u64.wrap ((t408.length : Int))))) < (t408.length : Int) then ((sobriquetref13_Escape.f (wrap64 (Int.tmod (IntKind.u64.wrap (a1)) 4)) ((rd_T38 t408 (wrap64 (Int.tmod (IntKind.u64.wrap (a0)) (IntKind.u64.wrap ((t408.length : Int)))))).f0)).bind fun t413 => ((some (([[], (([14] : List Int)), (([27, 110] : List Int)), (([27, 111] : List Int))] : List (List Int)) : List (List Int))).bind fun y425 => (if 0 ≤ (wrap64 (Int.tmod (IntKind.u64.wrap (a1)) 4)) then (if (wrap64 (Int.tmod (IntKind.u64.wrap (a1)) 4)) < (y425.length : Int) then (if t413.length + (rd_L12 y425 (wrap64 (Int.tmod (IntKind.u64.wrap (a1)) 4))).length < 140737488355328 then ((some (t413 ++ (rd_L12 y425 (wrap64 (Int.tmod (IntKind.u64.wrap (a1)) 4))) : List Int)).bind fun y429 => ((csets_Wide.f ((rd_T38 t408 (wrap64 (Int.tmod (IntKind.u64.wrap (a0)) (IntKind.u64.wrap ((t408.length : Int)))))).f0)).bind fun t435 => (if t435 = true then (sobriquetlaw18_TeletexPlaces.j0 k a2 y429 (([(wrap64 (Int.tdiv ((rd_T38 t408 (wrap64 (Int.tmod (IntKind.u64.wrap (a0)) (IntKind.u64.wrap ((t408.length : Int)))))).f1) 256)) % 256, ((rd_T38 t408 (wrap64 (Int.tmod (IntKind.u64.wrap (a0)) (IntKind.u64.wrap ((t408.length : Int)))))).f1) % 256] : List Int)) ((rd_T38 t408 (wrap64 (Int.tmod (IntKind.u64.wrap (a0)) (IntKind.u64.wrap ((t408.length : Int)))))).f0) ((rd_T38 t408 (wrap64 (Int.tmod (IntKind.u64.wrap (a0)) (IntKind.u64.wrap ((t408.length : Int)))))).f1) ((rd_T38 t408 (wrap64 (Int.tmod (IntKind.u64.wrap (a0)) (IntKind.u64.wrap ((t408.length : Int)))))).f2)) else (sobriquetlaw18_TeletexPlaces.j0 k a2 y429 (([((rd_T38 t408 (wrap64 (Int.tmod (IntKind.u64.wrap (a0)) (IntKind.u64.wrap ((t408.length : Int)))))).f1) % 256] : List Int)) ((rd_T38 t408 (wrap64 (Int.tmod (IntKind.u64.wrap (a0)) (IntKind.u64.wrap ((t408.length : Int)))))).f0) ((rd_T38 t408 (wrap64 (Int.tmod (IntKind.u64.wrap (a0)) (IntKind.u64.wrap ((t408.length : Int)))))).f1) ((rd_T38 t408 (wrap64 (Int.tmod (IntKind.u64.wrap (a0)) (IntKind.u64.wrap ((t408.length : Int)))))).f2))))) else (none)) else (none)) else (none)))) else (none)) else (none))))) = some r := h
 clear h
 replace H := Option.bind_eq_some_iff.mp H
 obtain ⟨t408, A40, H⟩ := H
 replace H : (if (t408.length : Int) = 0 then (some false) else (if (IntKind.u64.wrap ((t408.length : Int))) = 0 then (none) else (if 0 ≤ (wrap64 (Int.tmod (IntKind.u64.wrap (a0)) (IntKind.u64.wrap ((t408.length : Int))))) then (if (wrap64 (Int.tmod (IntKind.u64.wrap (a0)) (IntKind.u64.wrap ((t408.length : Int))))) < (t408.length : Int) then ((sobriquetref13_Escape.f (wrap64 (Int.tmod (IntKind.u64.wrap (a1)) 4)) ((rd_T38 t408 (wrap64 (Int.tmod (IntKind.u64.wrap (a0)) (IntKind.u64.wrap ((t408.length : Int)))))).f0)).bind fun t413 => ((some (([[], (([14] : List Int)), (([27, 110] : List Int)), (([27, 111] : List Int))] : List (List Int)) : List (List Int))).bind fun y425 => (if 0 ≤ (wrap64 (Int.tmod (IntKind.u64.wrap (a1)) 4)) then (if (wrap64 (Int.tmod (IntKind.u64.wrap (a1)) 4)) < (y425.length : Int) then (if t413.length + (rd_L12 y425 (wrap64 (Int.tmod (IntKind.u64.wrap (a1)) 4))).length < 140737488355328 then ((some (t413 ++ (rd_L12 y425 (wrap64 (Int.tmod (IntKind.u64.wrap (a1)) 4))) : List Int)).bind fun y429 => ((csets_Wide.f ((rd_T38 t408 (wrap64 (Int.tmod (IntKind.u64.wrap (a0)) (IntKind.u64.wrap ((t408.length : Int)))))).f0)).bind fun t435 => (if t435 = true then (sobriquetlaw18_TeletexPlaces.j0 k a2 y429 (([(wrap64 (Int.tdiv ((rd_T38 t408 (wrap64 (Int.tmod (IntKind.u64.wrap (a0)) (IntKind.u64.wrap ((t408.length : Int)))))).f1) 256)) % 256, ((rd_T38 t408 (wrap64 (Int.tmod (IntKind.u64.wrap (a0)) (IntKind.u64.wrap ((t408.length : Int)))))).f1) % 256] : List Int)) ((rd_T38 t408 (wrap64 (Int.tmod (IntKind.u64.wrap (a0)) (IntKind.u64.wrap ((t408.length : Int)))))).f0) ((rd_T38 t408 (wrap64 (Int.tmod (IntKind.u64.wrap (a0)) (IntKind.u64.wrap ((t408.length : Int)))))).f1) ((rd_T38 t408 (wrap64 (Int.tmod (IntKind.u64.wrap (a0)) (IntKind.u64.wrap ((t408.length : Int)))))).f2)) else (sobriquetlaw18_TeletexPlaces.j0 k a2 y429 (([((rd_T38 t408 (wrap64 (Int.tmod (IntKind.u64.wrap (a0)) (IntKind.u64.wrap ((t408.length : Int)))))).f1) % 256] : List Int)) ((rd_T38 t408 (wrap64 (Int.tmod (IntKind.u64.wrap (a0)) (IntKind.u64.wrap ((t408.length : Int)))))).f0) ((rd_T38 t408 (wrap64 (Int.tmod (IntKind.u64.wrap (a0)) (IntKind.u64.wrap ((t408.length : Int)))))).f1) ((rd_T38 t408 (wrap64 (Int.tmod (IntKind.u64.wrap (a0)) (IntKind.u64.wrap ((t408.length : Int)))))).f2))))) else (none)) else (none)) else (none)))) else (none)) else (none)))) = some r := H
 have A4 := Aside0.mk A40
 clear A40
 by_cases c5 : (t408.length : Int) = 0
 ·rw [if_pos c5] at H
  have c5b0 : ((t408.length : Int) == 0) = true := beq_iff_eq.mpr c5
  have c5b1 : ((t408.length : Int) != 0) = false := bne_eq_false_iff_eq.mpr c5
  clear c5
  obtain rfl := Option.some.inj H
  go_enter Try.func6, Try.ntmps6
  go_wp2_with (first | ((with_reducible refine gate_callee (f := 16) rfl ?_); refine goesL_ (some 20) rfl rfl Try.func16 (by kernel_rfl) rfl #[] rfl (by (try simp only [List.map_toArray, List.map_cons, List.map_nil]); first | done | rfl | (simp only [List.length_drop, List.length_take]; rfl)) ?_; (with_reducible refine (api_Codes.calls  t408 _ A4.out).mono ?_); rintro e w6 ⟨v409, rfl, ho0, hb⟩; refine ⟨_, rfl, ?_⟩; have n0_ := Aside0.mk (Kd.R_lower ho0 (below_size (by repeat (first | (with_reducible first | exact HB.out | apply below_alloc | apply pw_below_drewN | apply below_drew1) | exact HB.out)))); have n1_ := Aside0.mk (below_step (by repeat (first | (with_reducible first | exact HB.out | apply below_alloc | apply pw_below_drewN | apply below_drew1) | exact HB.out)) hb); clear HB; have HO410 := n0_; have HB := n1_; clear n0_ n1_; (try clear hb); (try clear hb2); (try clear hk); (try clear hi); (try clear ho0); obtain ⟨Ao7, co7, eo7⟩ := Kd.R_slice HO410.out; subst eo7))
  go_ret
  exact ⟨by first | rfl | (simp [errW_none, errW_some] <;> rfl) | (simp [*, errW_none, errW_some] <;> rfl), by repeat (first | (with_reducible first | exact HB.out | apply below_alloc | apply pw_below_drewN | apply below_drew1) | exact HB.out)⟩
 rw [if_neg c5] at H
 have c5b0 : ((t408.length : Int) == 0) = false := beq_eq_false_iff_ne.mpr c5
 have c5b1 : ((t408.length : Int) != 0) = true := bne_iff_ne.mpr c5
 have c5b2 : ¬ (t408 = []) := fun h_ => c5 (by rw [h_]; rfl)
 by_cases c8 : (IntKind.u64.wrap ((t408.length : Int))) = 0
 ·rw [if_pos c8] at H
  exact absurd H (by simp)
 rw [if_neg c8] at H
 have c8b0 : ((IntKind.u64.wrap ((t408.length : Int))) == 0) = false := beq_eq_false_iff_ne.mpr c8
 have c8b1 : ((IntKind.u64.wrap ((t408.length : Int))) != 0) = true := bne_iff_ne.mpr c8
 obtain ⟨ji9, hji9⟩ : ∃ j_ : Int, (wrap64 (Int.tmod (IntKind.u64.wrap (a0)) (IntKind.u64.wrap ((t408.length : Int))))) = j_ := ⟨_, rfl⟩
 replace H : (if 0 ≤ (ji9) then (if (ji9) < (t408.length : Int) then ((sobriquetref13_Escape.f (wrap64 (Int.tmod (IntKind.u64.wrap (a1)) 4)) ((rd_T38 t408 (ji9)).f0)).bind fun t413 => ((some (([[], (([14] : List Int)), (([27, 110] : List Int)), (([27, 111] : List Int))] : List (List Int)) : List (List Int))).bind fun y425 => (if 0 ≤ (wrap64 (Int.tmod (IntKind.u64.wrap (a1)) 4)) then (if (wrap64 (Int.tmod (IntKind.u64.wrap (a1)) 4)) < (y425.length : Int) then (if t413.length + (rd_L12 y425 (wrap64 (Int.tmod (IntKind.u64.wrap (a1)) 4))).length < 140737488355328 then ((some (t413 ++ (rd_L12 y425 (wrap64 (Int.tmod (IntKind.u64.wrap (a1)) 4))) : List Int)).bind fun y429 => ((csets_Wide.f ((rd_T38 t408 (ji9)).f0)).bind fun t435 => (if t435 = true then (sobriquetlaw18_TeletexPlaces.j0 k a2 y429 (([(wrap64 (Int.tdiv ((rd_T38 t408 (ji9)).f1) 256)) % 256, ((rd_T38 t408 (ji9)).f1) % 256] : List Int)) ((rd_T38 t408 (ji9)).f0) ((rd_T38 t408 (ji9)).f1) ((rd_T38 t408 (ji9)).f2)) else (sobriquetlaw18_TeletexPlaces.j0 k a2 y429 (([((rd_T38 t408 (ji9)).f1) % 256] : List Int)) ((rd_T38 t408 (ji9)).f0) ((rd_T38 t408 (ji9)).f1) ((rd_T38 t408 (ji9)).f2))))) else (none)) else (none)) else (none)))) else (none)) else (none)) = some r := by first | (rw [hji9] at H; exact H) | (simp only [hji9] at H ⊢; exact H)
 (try rw [hji9] at A4)
 have hji9w : (IntKind.i64.wrap (Int.tmod (IntKind.u64.wrap (a0)) (IntKind.u64.wrap ((t408.length : Int))))) = ji9 := (i64_w _).trans hji9
 by_cases c10 : 0 ≤ (ji9)
 rotate_left
 ·rw [if_neg c10] at H
  exact absurd H (by simp)
 rw [if_pos c10] at H
 have c10b0 : decide (0 ≤ (ji9)) = true := decide_eq_true c10
 clear c10
 by_cases c11 : (ji9) < (t408.length : Int)
 rotate_left
 ·rw [if_neg c11] at H
  exact absurd H (by simp)
 rw [if_pos c11] at H
 have c11b0 : decide ((ji9) < (t408.length : Int)) = true := decide_eq_true c11
 clear c11
 replace H := Option.bind_eq_some_iff.mp H
 obtain ⟨t413, A120, H⟩ := H
 replace H : ((some (([[], (([14] : List Int)), (([27, 110] : List Int)), (([27, 111] : List Int))] : List (List Int)) : List (List Int))).bind fun y425 => (if 0 ≤ (wrap64 (Int.tmod (IntKind.u64.wrap (a1)) 4)) then (if (wrap64 (Int.tmod (IntKind.u64.wrap (a1)) 4)) < (y425.length : Int) then (if t413.length + (rd_L12 y425 (wrap64 (Int.tmod (IntKind.u64.wrap (a1)) 4))).length < 140737488355328 then ((some (t413 ++ (rd_L12 y425 (wrap64 (Int.tmod (IntKind.u64.wrap (a1)) 4))) : List Int)).bind fun y429 => ((csets_Wide.f ((rd_T38 t408 (ji9)).f0)).bind fun t435 => (if t435 = true then (sobriquetlaw18_TeletexPlaces.j0 k a2 y429 (([(wrap64 (Int.tdiv ((rd_T38 t408 (ji9)).f1) 256)) % 256, ((rd_T38 t408 (ji9)).f1) % 256] : List Int)) ((rd_T38 t408 (ji9)).f0) ((rd_T38 t408 (ji9)).f1) ((rd_T38 t408 (ji9)).f2)) else (sobriquetlaw18_TeletexPlaces.j0 k a2 y429 (([((rd_T38 t408 (ji9)).f1) % 256] : List Int)) ((rd_T38 t408 (ji9)).f0) ((rd_T38 t408 (ji9)).f1) ((rd_T38 t408 (ji9)).f2))))) else (none)) else (none)) else (none))) = some r := H
 have A12 := Aside0.mk A120
 clear A120
 obtain ⟨y416, hy416⟩ : ∃ y_ : List Int, y_ = (([14] : List Int)) := ⟨_, rfl⟩
 replace H : ((some (([[], y416, (([27, 110] : List Int)), (([27, 111] : List Int))] : List (List Int)) : List (List Int))).bind fun y425 => (if 0 ≤ (wrap64 (Int.tmod (IntKind.u64.wrap (a1)) 4)) then (if (wrap64 (Int.tmod (IntKind.u64.wrap (a1)) 4)) < (y425.length : Int) then (if t413.length + (rd_L12 y425 (wrap64 (Int.tmod (IntKind.u64.wrap (a1)) 4))).length < 140737488355328 then ((some (t413 ++ (rd_L12 y425 (wrap64 (Int.tmod (IntKind.u64.wrap (a1)) 4))) : List Int)).bind fun y429 => ((csets_Wide.f ((rd_T38 t408 (ji9)).f0)).bind fun t435 => (if t435 = true then (sobriquetlaw18_TeletexPlaces.j0 k a2 y429 (([(wrap64 (Int.tdiv ((rd_T38 t408 (ji9)).f1) 256)) % 256, ((rd_T38 t408 (ji9)).f1) % 256] : List Int)) ((rd_T38 t408 (ji9)).f0) ((rd_T38 t408 (ji9)).f1) ((rd_T38 t408 (ji9)).f2)) else (sobriquetlaw18_TeletexPlaces.j0 k a2 y429 (([((rd_T38 t408 (ji9)).f1) % 256] : List Int)) ((rd_T38 t408 (ji9)).f0) ((rd_T38 t408 (ji9)).f1) ((rd_T38 t408 (ji9)).f2))))) else (none)) else (none)) else (none))) = some r := by first | (rw [hy416]; with_reducible exact H) | (have H2_ := (Option.bind_some _ _).symm.trans H; rw [hy416]; with_reducible exact H2_) | (have H2_ := (Option.bind_some _ _).symm.trans H; with_reducible exact H2_) | with_reducible exact H | (rw [hy416]; exact H) | exact H
 have Ny416 := Aside0.mk hy416
 clear hy416
 obtain ⟨y419, hy419⟩ : ∃ y_ : List Int, y_ = (([27, 110] : List Int)) := ⟨_, rfl⟩
 replace H : ((some (([[], y416, y419, (([27, 111] : List Int))] : List (List Int)) : List (List Int))).bind fun y425 => (if 0 ≤ (wrap64 (Int.tmod (IntKind.u64.wrap (a1)) 4)) then (if (wrap64 (Int.tmod (IntKind.u64.wrap (a1)) 4)) < (y425.length : Int) then (if t413.length + (rd_L12 y425 (wrap64 (Int.tmod (IntKind.u64.wrap (a1)) 4))).length < 140737488355328 then ((some (t413 ++ (rd_L12 y425 (wrap64 (Int.tmod (IntKind.u64.wrap (a1)) 4))) : List Int)).bind fun y429 => ((csets_Wide.f ((rd_T38 t408 (ji9)).f0)).bind fun t435 => (if t435 = true then (sobriquetlaw18_TeletexPlaces.j0 k a2 y429 (([(wrap64 (Int.tdiv ((rd_T38 t408 (ji9)).f1) 256)) % 256, ((rd_T38 t408 (ji9)).f1) % 256] : List Int)) ((rd_T38 t408 (ji9)).f0) ((rd_T38 t408 (ji9)).f1) ((rd_T38 t408 (ji9)).f2)) else (sobriquetlaw18_TeletexPlaces.j0 k a2 y429 (([((rd_T38 t408 (ji9)).f1) % 256] : List Int)) ((rd_T38 t408 (ji9)).f0) ((rd_T38 t408 (ji9)).f1) ((rd_T38 t408 (ji9)).f2))))) else (none)) else (none)) else (none))) = some r := by first | (rw [hy419]; with_reducible exact H) | (have H2_ := (Option.bind_some _ _).symm.trans H; rw [hy419]; with_reducible exact H2_) | (have H2_ := (Option.bind_some _ _).symm.trans H; with_reducible exact H2_) | with_reducible exact H | (rw [hy419]; exact H) | exact H
 have Ny419 := Aside0.mk hy419
 clear hy419
 obtain ⟨y422, hy422⟩ : ∃ y_ : List Int, y_ = (([27, 111] : List Int)) := ⟨_, rfl⟩
 replace H : ((some (([[], y416, y419, y422] : List (List Int)) : List (List Int))).bind fun y425 => (if 0 ≤ (wrap64 (Int.tmod (IntKind.u64.wrap (a1)) 4)) then (if (wrap64 (Int.tmod (IntKind.u64.wrap (a1)) 4)) < (y425.length : Int) then (if t413.length + (rd_L12 y425 (wrap64 (Int.tmod (IntKind.u64.wrap (a1)) 4))).length < 140737488355328 then ((some (t413 ++ (rd_L12 y425 (wrap64 (Int.tmod (IntKind.u64.wrap (a1)) 4))) : List Int)).bind fun y429 => ((csets_Wide.f ((rd_T38 t408 (ji9)).f0)).bind fun t435 => (if t435 = true then (sobriquetlaw18_TeletexPlaces.j0 k a2 y429 (([(wrap64 (Int.tdiv ((rd_T38 t408 (ji9)).f1) 256)) % 256, ((rd_T38 t408 (ji9)).f1) % 256] : List Int)) ((rd_T38 t408 (ji9)).f0) ((rd_T38 t408 (ji9)).f1) ((rd_T38 t408 (ji9)).f2)) else (sobriquetlaw18_TeletexPlaces.j0 k a2 y429 (([((rd_T38 t408 (ji9)).f1) % 256] : List Int)) ((rd_T38 t408 (ji9)).f0) ((rd_T38 t408 (ji9)).f1) ((rd_T38 t408 (ji9)).f2))))) else (none)) else (none)) else (none))) = some r := by first | (rw [hy422]; with_reducible exact H) | (have H2_ := (Option.bind_some _ _).symm.trans H; rw [hy422]; with_reducible exact H2_) | (have H2_ := (Option.bind_some _ _).symm.trans H; with_reducible exact H2_) | with_reducible exact H | (rw [hy422]; exact H) | exact H
 have Ny422 := Aside0.mk hy422
 clear hy422
 obtain ⟨y425, hy425⟩ : ∃ y_ : List (List Int), y_ = (([[], y416, y419, y422] : List (List Int))) := ⟨_, rfl⟩
 replace H : (if 0 ≤ (wrap64 (Int.tmod (IntKind.u64.wrap (a1)) 4)) then (if (wrap64 (Int.tmod (IntKind.u64.wrap (a1)) 4)) < (y425.length : Int) then (if t413.length + (rd_L12 y425 (wrap64 (Int.tmod (IntKind.u64.wrap (a1)) 4))).length < 140737488355328 then ((some (t413 ++ (rd_L12 y425 (wrap64 (Int.tmod (IntKind.u64.wrap (a1)) 4))) : List Int)).bind fun y429 => ((csets_Wide.f ((rd_T38 t408 (ji9)).f0)).bind fun t435 => (if t435 = true then (sobriquetlaw18_TeletexPlaces.j0 k a2 y429 (([(wrap64 (Int.tdiv ((rd_T38 t408 (ji9)).f1) 256)) % 256, ((rd_T38 t408 (ji9)).f1) % 256] : List Int)) ((rd_T38 t408 (ji9)).f0) ((rd_T38 t408 (ji9)).f1) ((rd_T38 t408 (ji9)).f2)) else (sobriquetlaw18_TeletexPlaces.j0 k a2 y429 (([((rd_T38 t408 (ji9)).f1) % 256] : List Int)) ((rd_T38 t408 (ji9)).f0) ((rd_T38 t408 (ji9)).f1) ((rd_T38 t408 (ji9)).f2))))) else (none)) else (none)) else (none)) = some r := by first | (rw [hy425]; with_reducible exact H) | (have H2_ := (Option.bind_some _ _).symm.trans H; rw [hy425]; with_reducible exact H2_) | (have H2_ := (Option.bind_some _ _).symm.trans H; with_reducible exact H2_) | with_reducible exact H | (rw [hy425]; exact H) | exact H
 have Ny425 := Aside0.mk hy425
 clear hy425
 obtain ⟨ji13, hji13⟩ : ∃ j_ : Int, (wrap64 (Int.tmod (IntKind.u64.wrap (a1)) 4)) = j_ := ⟨_, rfl⟩
 replace H : (if 0 ≤ (ji13) then (if (ji13) < (y425.length : Int) then (if t413.length + (rd_L12 y425 (ji13)).length < 140737488355328 then ((some (t413 ++ (rd_L12 y425 (ji13)) : List Int)).bind fun y429 => ((csets_Wide.f ((rd_T38 t408 (ji9)).f0)).bind fun t435 => (if t435 = true then (sobriquetlaw18_TeletexPlaces.j0 k a2 y429 (([(wrap64 (Int.tdiv ((rd_T38 t408 (ji9)).f1) 256)) % 256, ((rd_T38 t408 (ji9)).f1) % 256] : List Int)) ((rd_T38 t408 (ji9)).f0) ((rd_T38 t408 (ji9)).f1) ((rd_T38 t408 (ji9)).f2)) else (sobriquetlaw18_TeletexPlaces.j0 k a2 y429 (([((rd_T38 t408 (ji9)).f1) % 256] : List Int)) ((rd_T38 t408 (ji9)).f0) ((rd_T38 t408 (ji9)).f1) ((rd_T38 t408 (ji9)).f2))))) else (none)) else (none)) else (none)) = some r := by first | (rw [hji13] at H; exact H) | (simp only [hji13] at H ⊢; exact H)
 (try rw [hji13] at A4)
 (try rw [hji13] at A12)
 have hji13w : (IntKind.i64.wrap (Int.tmod (IntKind.u64.wrap (a1)) 4)) = ji13 := (i64_w _).trans hji13
 by_cases c14 : 0 ≤ (ji13)
 rotate_left
 ·rw [if_neg c14] at H
  exact absurd H (by simp)
 rw [if_pos c14] at H
 have c14b0 : decide (0 ≤ (ji13)) = true := decide_eq_true c14
 clear c14
 by_cases c15 : (ji13) < (y425.length : Int)
 rotate_left
 ·rw [if_neg c15] at H
  exact absurd H (by simp)
 rw [if_pos c15] at H
 have c15b0 : decide ((ji13) < (y425.length : Int)) = true := decide_eq_true c15
 clear c15
 by_cases c16 : t413.length + (rd_L12 y425 (ji13)).length < 140737488355328
 rotate_left
 ·rw [if_neg c16] at H
  exact absurd H (by simp)
 rw [if_pos c16] at H
 have LMc16 := Aside0.mk c16
 clear c16
 obtain ⟨y429, hy429⟩ : ∃ y_ : List Int, y_ = (t413 ++ (rd_L12 y425 (ji13))) := ⟨_, rfl⟩
 replace H : ((csets_Wide.f ((rd_T38 t408 (ji9)).f0)).bind fun t435 => (if t435 = true then (sobriquetlaw18_TeletexPlaces.j0 k a2 y429 (([(wrap64 (Int.tdiv ((rd_T38 t408 (ji9)).f1) 256)) % 256, ((rd_T38 t408 (ji9)).f1) % 256] : List Int)) ((rd_T38 t408 (ji9)).f0) ((rd_T38 t408 (ji9)).f1) ((rd_T38 t408 (ji9)).f2)) else (sobriquetlaw18_TeletexPlaces.j0 k a2 y429 (([((rd_T38 t408 (ji9)).f1) % 256] : List Int)) ((rd_T38 t408 (ji9)).f0) ((rd_T38 t408 (ji9)).f1) ((rd_T38 t408 (ji9)).f2)))) = some r := by first | (rw [hy429]; with_reducible exact H) | (have H2_ := (Option.bind_some _ _).symm.trans H; rw [hy429]; with_reducible exact H2_) | (have H2_ := (Option.bind_some _ _).symm.trans H; with_reducible exact H2_) | with_reducible exact H | (rw [hy429]; exact H) | exact H
 have Ny429 := Aside0.mk hy429
 clear hy429
 obtain ⟨y432, hy432⟩ : ∃ y_ : List Int, y_ = (([((rd_T38 t408 (ji9)).f1) % 256] : List Int)) := ⟨_, rfl⟩
 replace H : ((csets_Wide.f ((rd_T38 t408 (ji9)).f0)).bind fun t435 => (if t435 = true then (sobriquetlaw18_TeletexPlaces.j0 k a2 y429 (([(wrap64 (Int.tdiv ((rd_T38 t408 (ji9)).f1) 256)) % 256, ((rd_T38 t408 (ji9)).f1) % 256] : List Int)) ((rd_T38 t408 (ji9)).f0) ((rd_T38 t408 (ji9)).f1) ((rd_T38 t408 (ji9)).f2)) else (sobriquetlaw18_TeletexPlaces.j0 k a2 y429 y432 ((rd_T38 t408 (ji9)).f0) ((rd_T38 t408 (ji9)).f1) ((rd_T38 t408 (ji9)).f2)))) = some r := by first | (rw [hy432]; with_reducible exact H) | (have H2_ := (Option.bind_some _ _).symm.trans H; rw [hy432]; with_reducible exact H2_) | (have H2_ := (Option.bind_some _ _).symm.trans H; with_reducible exact H2_) | with_reducible exact H | (rw [hy432]; exact H) | exact H
 have Ny432 := Aside0.mk hy432
 clear hy432
 replace H := Option.bind_eq_some_iff.mp H
 obtain ⟨t435, A170, H⟩ := H
 replace H : (if t435 = true then (sobriquetlaw18_TeletexPlaces.j0 k a2 y429 (([(wrap64 (Int.tdiv ((rd_T38 t408 (ji9)).f1) 256)) % 256, ((rd_T38 t408 (ji9)).f1) % 256] : List Int)) ((rd_T38 t408 (ji9)).f0) ((rd_T38 t408 (ji9)).f1) ((rd_T38 t408 (ji9)).f2)) else (sobriquetlaw18_TeletexPlaces.j0 k a2 y429 y432 ((rd_T38 t408 (ji9)).f0) ((rd_T38 t408 (ji9)).f1) ((rd_T38 t408 (ji9)).f2))) = some r := H
 have A17 := Aside0.mk A170
 clear A170
 have HC18 := Aside0.mk H
 clear H
 go_enter Try.func6, Try.ntmps6
 go_upto_if 58 with (first | ((with_reducible refine gate_callee (f := 16) rfl ?_); refine goesL_ (some 20) rfl rfl Try.func16 (by kernel_rfl) rfl #[] rfl (by (try simp only [List.map_toArray, List.map_cons, List.map_nil]); first | done | rfl | (simp only [List.length_drop, List.length_take]; rfl)) ?_; (with_reducible refine (api_Codes.calls  t408 _ A4.out).mono ?_); rintro e w19 ⟨v409, rfl, ho0, hb⟩; refine ⟨_, rfl, ?_⟩; have n0_ := Aside0.mk (Kd.R_lower ho0 (below_size (by repeat (first | (with_reducible first | exact HB.out | apply below_alloc | apply pw_below_drewN | apply below_drew1) | exact HB.out)))); have n1_ := Aside0.mk (below_step (by repeat (first | (with_reducible first | exact HB.out | apply below_alloc | apply pw_below_drewN | apply below_drew1) | exact HB.out)) hb); clear HB; have HO410 := n0_; have HB := n1_; clear n0_ n1_; (try clear hb); (try clear hb2); (try clear hk); (try clear hi); (try clear ho0); obtain ⟨Ao20, co20, eo20⟩ := Kd.R_slice HO410.out; subst eo20; have p411 : 0 ≤ ((ji9) : Int) := of_decide_eq_true (by first | (with_reducible assumption) | assumption); have q411 : (ji9) < (t408.length : Int) := of_decide_eq_true (by first | (with_reducible assumption) | assumption); obtain ⟨ad411, e411, hx411_0, hx411_1, hx411_2⟩ := at_T38 (Kd.R_reads' HO410.out).2.2 (ji9) p411 q411; cases e411; replace p411 := eq_true p411; replace q411 := eq_true q411) | ((with_reducible refine gate_dst (N := 8) rfl ?_); (try (refine gate_guard (by rfl) ?_; dsimp only)); refine box_event ?hg (N := 8) ?hd (cs := #[.int .i64 0, .int .i64 0, .int .i64 0]) (t := 38) ?hr ?_; (case hd => rfl); (case hg => rfl); (case hr => first | (go_simp; done) | (go_simp; rfl)); intro gb412 hg w21 hbox hb; have n0_ := Aside0.mk (Kd.R_below (Kd.R_elderB (by (with_reducible repeat (first | apply Kd.R_alloc | apply Kd.R_drewN | apply Kd.R_drew)); exact HO410.out) gb412 (Nat.le_of_eq hg.symm)) hb); have n1_ := Aside0.mk (below_step (by repeat (first | (with_reducible first | exact HB.out | apply below_alloc | apply pw_below_drewN | apply below_drew1) | exact HB.out)) hb); have n2_ := Aside0.mk (hbox); have n3_ := Aside0.mk ((by rw [hg]; exact (below_size (by repeat (first | (with_reducible first | exact HB.out | apply below_alloc | apply pw_below_drewN | apply below_drew1) | exact HB.out))) : w.heap.size ≤ gb412)); have n4_ := Aside0.mk ((by rw [hg]; exact (below_size (by repeat (first | (with_reducible first | exact HB.out | apply below_alloc | apply pw_below_drewN | apply below_drew1) | exact HB.out))) : w.heap.size ≤ gb412)); clear HO410; clear HB; have HO410 := n0_; have HB := n1_; have BK412 := n2_; have GW412 := n3_; have GE412 := n4_; clear n0_ n1_ n2_ n3_ n4_; clear hb hbox hg; have hcz22_0 : w21.cell? ⟨gb412, 0, none⟩ = some (.int .i64 0) := (blk_cell BK412.out 0).trans rfl; have hcz22_1 : w21.cell? ⟨gb412, 1, none⟩ = some (.int .i64 0) := (blk_cell BK412.out 1).trans rfl; have hcz22_2 : w21.cell? ⟨gb412, 2, none⟩ = some (.int .i64 0) := (blk_cell BK412.out 2).trans rfl; have hfz22_0 := blk_frozen BK412.out 0; have hfz22_1 := blk_frozen BK412.out 1; have hfz22_2 := blk_frozen BK412.out 2) | ((with_reducible refine gate_callee (f := 17) rfl ?_); refine goesL_ (some 41) rfl rfl Try.func17 (by kernel_rfl) rfl #[.int .i64 ji13, .int .i64 ((rd_T38 t408 (ji9)).f0)] rfl (by (try simp only [List.map_toArray, List.map_cons, List.map_nil]); first | done | (simp only [hji13, hji9]; rfl) | rfl | (simp only [List.length_drop, List.length_take]; rfl)) ?_; (with_reducible refine (sobriquetref13_Escape.calls ji13 ((rd_T38 t408 (ji9)).f0) t413 _ A12.out).mono ?_); rintro e w23 ⟨v414, rfl, ho0, hb⟩; refine ⟨_, rfl, ?_⟩; have n0_ := Aside0.mk (Kd.R_below (by (with_reducible repeat (first | apply Kd.R_alloc | apply Kd.R_drewN | apply Kd.R_drew)); exact (Kd.R_mono (Kd.R_far (p := ⟨gb412, 2, none⟩) (Kd.R_far (p := ⟨gb412, 1, none⟩) (Kd.R_far (p := ⟨gb412, 0, none⟩) (Kd.R_mono HO410.out (fun k_ hk => (⟨hk, hk.2⟩ : _ ∧ k_ ≠ gb412))) (fun _ hk => hk.2) (.int .i64 ((rd_T38 t408 (ji9)).f0))) (fun _ hk => hk.2) (.int .i64 ((rd_T38 t408 (ji9)).f1))) (fun _ hk => hk.2) (.int .i64 ((rd_T38 t408 (ji9)).f2))) (fun _ h_ => h_.1))) hb); have n1_ := Aside0.mk (Kd.R_lower ho0 (below_size (by repeat (first | (with_reducible first | exact HB.out | apply below_alloc | apply pw_below_drewN | apply below_drew1 | refine below_set ?_ GE412.out) | exact HB.out)))); have n2_ := Aside0.mk (blk_below (g := gb412) (o := .cells #[.int .i64 ((rd_T38 t408 (ji9)).f0), .int .i64 ((rd_T38 t408 (ji9)).f1), .int .i64 ((rd_T38 t408 (ji9)).f2)] 38 (0, 0)) (by (with_reducible repeat (first | refine blk_drewN ?_ _ | refine blk_drew ?_ | refine blk_alloc ?_ _)); refine blk_put (cs := #[.int .i64 ((rd_T38 t408 (ji9)).f0), .int .i64 ((rd_T38 t408 (ji9)).f1), .int .i64 0]) ?_ 2 _ rfl; (with_reducible repeat (first | refine blk_drewN ?_ _ | refine blk_drew ?_ | refine blk_alloc ?_ _)); refine blk_put (cs := #[.int .i64 ((rd_T38 t408 (ji9)).f0), .int .i64 0, .int .i64 0]) ?_ 1 _ rfl; (with_reducible repeat (first | refine blk_drewN ?_ _ | refine blk_drew ?_ | refine blk_alloc ?_ _)); refine blk_put (cs := #[.int .i64 0, .int .i64 0, .int .i64 0]) ?_ 0 _ rfl; (with_reducible repeat (first | refine blk_drewN ?_ _ | refine blk_drew ?_ | refine blk_alloc ?_ _)); exact BK412.out) hb); have n3_ := Aside0.mk (below_step (by repeat (first | (with_reducible first | exact HB.out | apply below_alloc | apply pw_below_drewN | apply below_drew1 | refine below_set ?_ GE412.out) | exact HB.out)) hb); clear HO410; clear BK412; clear HB; have HO410 := n0_; have HO415 := n1_; have BK412 := n2_; have HB := n3_; clear n0_ n1_ n2_ n3_; (try clear hb); (try clear hb2); (try clear hk); (try clear hi); (try clear ho0)) | ((with_reducible refine gate_dst (N := 42) rfl ?_); (try (refine gate_guard (by rfl) ?_; dsimp only)); refine Kd.R_lit (Kd.int .u8) _ 5 ?hg (N := 42) ?hd (xs := ([14] : List Int)) (inner := [.int .u8 14]) (ok := fun _ => True) (okp := fun _ => True) ?hr ?hp (fun _ hk => hk) trivial (Below.refl _ _) (Nat.le_refl _) (by simp) ?_; (case hd => rfl); (case hg => rfl); (case hr => first | (go_simp; done) | (go_simp; rfl)); (case hp => exact (Reps.one (show Kd.M (Kd.int .u8) _ _ _ 14 [.int .u8 14] from rfl) (Reps.none _ _))); intro v417 w24 ho25 hb hg_ hnew_; clear hg_ hnew_; (first | rw [← Ny416.out] at ho25 | (simp only [Int.reduceToNat] at ho25; rw [← Ny416.out] at ho25)); have n0_ := Aside0.mk (Kd.R_below (by (with_reducible repeat (first | apply Kd.R_alloc | apply Kd.R_drewN | apply Kd.R_drew)); exact HO410.out) hb); have n1_ := Aside0.mk (Kd.R_elder' (by (with_reducible repeat (first | apply Kd.R_alloc | apply Kd.R_drewN | apply Kd.R_drew)); exact HO415.out) (Kd.R_base ho25) hb); have n2_ := Aside0.mk (Kd.R_lower (Kd.R_new' ho25 (Kd.R_lt (by (with_reducible repeat (first | apply Kd.R_alloc | apply Kd.R_drewN | apply Kd.R_drew)); exact HO415.out))) (below_size (by repeat (first | (with_reducible first | exact HB.out | apply below_alloc | apply pw_below_drewN | apply below_drew1 | refine below_set ?_ GE412.out) | exact HB.out)))); have n3_ := Aside0.mk (blk_below (g := gb412) (o := .cells #[.int .i64 ((rd_T38 t408 (ji9)).f0), .int .i64 ((rd_T38 t408 (ji9)).f1), .int .i64 ((rd_T38 t408 (ji9)).f2)] 38 (0, 0)) (by (with_reducible repeat (first | refine blk_drewN ?_ _ | refine blk_drew ?_ | refine blk_alloc ?_ _)); exact BK412.out) hb); have n4_ := Aside0.mk (below_step (by repeat (first | (with_reducible first | exact HB.out | apply below_alloc | apply pw_below_drewN | apply below_drew1 | refine below_set ?_ GE412.out) | exact HB.out)) hb); clear HO410; clear HO415; clear BK412; clear HB; have HO410 := n0_; have HO415 := n1_; have HO418 := n2_; have BK412 := n3_; have HB := n4_; clear n0_ n1_ n2_ n3_ n4_; clear hb ho25) | ((with_reducible refine gate_dst (N := 43) rfl ?_); (try (refine gate_guard (by rfl) ?_; dsimp only)); refine Kd.R_lit (Kd.int .u8) _ 5 ?hg (N := 43) ?hd (xs := ([27, 110] : List Int)) (inner := [.int .u8 27, .int .u8 110]) (ok := fun _ => True) (okp := fun _ => True) ?hr ?hp (fun _ hk => hk) trivial (Below.refl _ _) (Nat.le_refl _) (by simp) ?_; (case hd => rfl); (case hg => rfl); (case hr => first | (go_simp; done) | (go_simp; rfl)); (case hp => exact (Reps.one (show Kd.M (Kd.int .u8) _ _ _ 27 [.int .u8 27] from rfl) (Reps.one (show Kd.M (Kd.int .u8) _ _ _ 110 [.int .u8 110] from rfl) (Reps.none _ _)))); intro v420 w26 ho27 hb hg_ hnew_; clear hg_ hnew_; (first | rw [← Ny419.out] at ho27 | (simp only [Int.reduceToNat] at ho27; rw [← Ny419.out] at ho27)); have n0_ := Aside0.mk (Kd.R_below (by (with_reducible repeat (first | apply Kd.R_alloc | apply Kd.R_drewN | apply Kd.R_drew)); exact HO410.out) hb); have n1_ := Aside0.mk (Kd.R_elder' (by (with_reducible repeat (first | apply Kd.R_alloc | apply Kd.R_drewN | apply Kd.R_drew)); exact HO415.out) (Kd.R_base ho27) hb); have n2_ := Aside0.mk (Kd.R_elder' (by (with_reducible repeat (first | apply Kd.R_alloc | apply Kd.R_drewN | apply Kd.R_drew)); exact HO418.out) (Kd.R_base ho27) hb); have n3_ := Aside0.mk (Kd.R_lower (Kd.R_new' (Kd.R_new' ho27 (Kd.R_lt (by (with_reducible repeat (first | apply Kd.R_alloc | apply Kd.R_drewN | apply Kd.R_drew)); exact HO415.out))) (Kd.R_lt (by (with_reducible repeat (first | apply Kd.R_alloc | apply Kd.R_drewN | apply Kd.R_drew)); exact HO418.out))) (below_size (by repeat (first | (with_reducible first | exact HB.out | apply below_alloc | apply pw_below_drewN | apply below_drew1 | refine below_set ?_ GE412.out) | exact HB.out)))); have n4_ := Aside0.mk (blk_below (g := gb412) (o := .cells #[.int .i64 ((rd_T38 t408 (ji9)).f0), .int .i64 ((rd_T38 t408 (ji9)).f1), .int .i64 ((rd_T38 t408 (ji9)).f2)] 38 (0, 0)) (by (with_reducible repeat (first | refine blk_drewN ?_ _ | refine blk_drew ?_ | refine blk_alloc ?_ _)); exact BK412.out) hb); have n5_ := Aside0.mk (below_step (by repeat (first | (with_reducible first | exact HB.out | apply below_alloc | apply pw_below_drewN | apply below_drew1 | refine below_set ?_ GE412.out) | exact HB.out)) hb); clear HO410; clear HO415; clear HO418; clear BK412; clear HB; have HO410 := n0_; have HO415 := n1_; have HO418 := n2_; have HO421 := n3_; have BK412 := n4_; have HB := n5_; clear n0_ n1_ n2_ n3_ n4_ n5_; clear hb ho27) | ((with_reducible refine gate_dst (N := 44) rfl ?_); (try (refine gate_guard (by rfl) ?_; dsimp only)); refine Kd.R_lit (Kd.int .u8) _ 5 ?hg (N := 44) ?hd (xs := ([27, 111] : List Int)) (inner := [.int .u8 27, .int .u8 111]) (ok := fun _ => True) (okp := fun _ => True) ?hr ?hp (fun _ hk => hk) trivial (Below.refl _ _) (Nat.le_refl _) (by simp) ?_; (case hd => rfl); (case hg => rfl); (case hr => first | (go_simp; done) | (go_simp; rfl)); (case hp => exact (Reps.one (show Kd.M (Kd.int .u8) _ _ _ 27 [.int .u8 27] from rfl) (Reps.one (show Kd.M (Kd.int .u8) _ _ _ 111 [.int .u8 111] from rfl) (Reps.none _ _)))); intro v423 w28 ho29 hb hg_ hnew_; clear hg_ hnew_; (first | rw [← Ny422.out] at ho29 | (simp only [Int.reduceToNat] at ho29; rw [← Ny422.out] at ho29)); have n0_ := Aside0.mk (Kd.R_below (by (with_reducible repeat (first | apply Kd.R_alloc | apply Kd.R_drewN | apply Kd.R_drew)); exact HO410.out) hb); have n1_ := Aside0.mk (Kd.R_elder' (by (with_reducible repeat (first | apply Kd.R_alloc | apply Kd.R_drewN | apply Kd.R_drew)); exact HO415.out) (Kd.R_base ho29) hb); have n2_ := Aside0.mk (Kd.R_elder' (by (with_reducible repeat (first | apply Kd.R_alloc | apply Kd.R_drewN | apply Kd.R_drew)); exact HO418.out) (Kd.R_base ho29) hb); have n3_ := Aside0.mk (Kd.R_elder' (by (with_reducible repeat (first | apply Kd.R_alloc | apply Kd.R_drewN | apply Kd.R_drew)); exact HO421.out) (Kd.R_base ho29) hb); have n4_ := Aside0.mk (Kd.R_lower (Kd.R_new' (Kd.R_new' (Kd.R_new' ho29 (Kd.R_lt (by (with_reducible repeat (first | apply Kd.R_alloc | apply Kd.R_drewN | apply Kd.R_drew)); exact HO415.out))) (Kd.R_lt (by (with_reducible repeat (first | apply Kd.R_alloc | apply Kd.R_drewN | apply Kd.R_drew)); exact HO418.out))) (Kd.R_lt (by (with_reducible repeat (first | apply Kd.R_alloc | apply Kd.R_drewN | apply Kd.R_drew)); exact HO421.out))) (below_size (by repeat (first | (with_reducible first | exact HB.out | apply below_alloc | apply pw_below_drewN | apply below_drew1 | refine below_set ?_ GE412.out) | exact HB.out)))); have n5_ := Aside0.mk (blk_below (g := gb412) (o := .cells #[.int .i64 ((rd_T38 t408 (ji9)).f0), .int .i64 ((rd_T38 t408 (ji9)).f1), .int .i64 ((rd_T38 t408 (ji9)).f2)] 38 (0, 0)) (by (with_reducible repeat (first | refine blk_drewN ?_ _ | refine blk_drew ?_ | refine blk_alloc ?_ _)); exact BK412.out) hb); have n6_ := Aside0.mk (below_step (by repeat (first | (with_reducible first | exact HB.out | apply below_alloc | apply pw_below_drewN | apply below_drew1 | refine below_set ?_ GE412.out) | exact HB.out)) hb); clear HO410; clear HO415; clear HO418; clear HO421; clear BK412; clear HB; have HO410 := n0_; have HO415 := n1_; have HO418 := n2_; have HO421 := n3_; have HO424 := n4_; have BK412 := n5_; have HB := n6_; clear n0_ n1_ n2_ n3_ n4_ n5_ n6_; clear hb ho29; obtain ⟨Ao30, co30, eo30⟩ := Kd.R_slice HO418.out; subst eo30; obtain ⟨Ao31, co31, eo31⟩ := Kd.R_slice HO421.out; subst eo31; obtain ⟨Ao32, co32, eo32⟩ := Kd.R_slice HO424.out; subst eo32) | ((with_reducible refine gate_dst (N := 45) rfl ?_); (try (refine gate_guard (by rfl) ?_; dsimp only)); refine Kd.N_lit (Kd.slice 5 (Kd.int .u8)) _ 23 ?hg (N' := 45) ?hd (xs := ([[], y416, y419, y422] : List (List Int))) (inner := [.slice none 0 0, .slice Ao30 y416.length co30, .slice Ao31 y419.length co31, .slice Ao32 y422.length co32]) (ok := (fun k_ => some k_ ≠ (.slice (some ad411) t408.length co20 : Value).ownBlock ∧ some k_ ≠ (v414 : Value).ownBlock ∧ k_ ≠ gb412)) (okp := (fun k_ => some k_ ≠ (.slice (some ad411) t408.length co20 : Value).ownBlock ∧ some k_ ≠ (v414 : Value).ownBlock ∧ k_ ≠ gb412)) ?hr ?hp (fun _ hk => hk) ((show ∀ k_, w28.heap.size ≤ k_ → (fun k_ => some k_ ≠ (.slice (some ad411) t408.length co20 : Value).ownBlock ∧ some k_ ≠ (v414 : Value).ownBlock ∧ k_ ≠ gb412) k_ from fun k_ hk => ⟨Kd.fresh' (Kd.R_lt (by (with_reducible repeat (first | apply Kd.R_alloc | apply Kd.R_drewN | apply Kd.R_drew)); exact HO410.out)) k_ hk, Kd.fresh' (Kd.R_lt (by (with_reducible repeat (first | apply Kd.R_alloc | apply Kd.R_drewN | apply Kd.R_drew)); exact HO415.out)) k_ hk, Kd.freshB (g := gb412) (o := .cells #[.int .i64 ((rd_T38 t408 (ji9)).f0), .int .i64 ((rd_T38 t408 (ji9)).f1), .int .i64 ((rd_T38 t408 (ji9)).f2)] 38 (0, 0)) (by (with_reducible repeat (first | refine blk_drewN ?_ _ | refine blk_drew ?_ | refine blk_alloc ?_ _)); exact BK412.out) k_ hk⟩) _ (Nat.le_refl _)) (Below.refl _ _) (Nat.le_refl _) (by simp) ?_; (case hd => rfl); (case hg => rfl); (case hr => first | (go_simp; done) | (go_simp; rfl)); (case hp => exact (Reps.one (show Kd.FK (Kd.slice 5 (Kd.int .u8)) _ _ [] [.slice none 0 0] from (Kd.FK_slice_mk (Nat.le_refl _) (Kd.F_nil _ _ _))) (Reps.one (show Kd.FK (Kd.slice 5 (Kd.int .u8)) _ _ y416 [.slice Ao30 y416.length co30] from (Kd.FK_slice_mk (Kd.R_reads' (Kd.R_mono (ok' := (fun k_ => some k_ ≠ (.slice (some ad411) t408.length co20 : Value).ownBlock ∧ some k_ ≠ (v414 : Value).ownBlock ∧ k_ ≠ gb412)) (Kd.R_types (Kd.R_apart' (HO418.out) (Kd.R_typed HO410.out) (by decide)) BK412.out (by decide)) (fun k_ hk => ⟨hk.1.2, ⟨hk.1.1.1.1.2, hk.2⟩⟩))).2.1 (Kd.R_F (Kd.R_mono (ok' := (fun k_ => some k_ ≠ (.slice (some ad411) t408.length co20 : Value).ownBlock ∧ some k_ ≠ (v414 : Value).ownBlock ∧ k_ ≠ gb412)) (Kd.R_types (Kd.R_apart' (HO418.out) (Kd.R_typed HO410.out) (by decide)) BK412.out (by decide)) (fun k_ hk => ⟨hk.1.2, ⟨hk.1.1.1.1.2, hk.2⟩⟩))))) (Reps.one (show Kd.FK (Kd.slice 5 (Kd.int .u8)) _ _ y419 [.slice Ao31 y419.length co31] from (Kd.FK_slice_mk (Kd.R_reads' (Kd.R_mono (ok' := (fun k_ => some k_ ≠ (.slice (some ad411) t408.length co20 : Value).ownBlock ∧ some k_ ≠ (v414 : Value).ownBlock ∧ k_ ≠ gb412)) (Kd.R_types (Kd.R_apart' (HO421.out) (Kd.R_typed HO410.out) (by decide)) BK412.out (by decide)) (fun k_ hk => ⟨hk.1.2, ⟨hk.1.1.1.1.2, hk.2⟩⟩))).2.1 (Kd.R_F (Kd.R_mono (ok' := (fun k_ => some k_ ≠ (.slice (some ad411) t408.length co20 : Value).ownBlock ∧ some k_ ≠ (v414 : Value).ownBlock ∧ k_ ≠ gb412)) (Kd.R_types (Kd.R_apart' (HO421.out) (Kd.R_typed HO410.out) (by decide)) BK412.out (by decide)) (fun k_ hk => ⟨hk.1.2, ⟨hk.1.1.1.1.2, hk.2⟩⟩))))) (Reps.one (show Kd.FK (Kd.slice 5 (Kd.int .u8)) _ _ y422 [.slice Ao32 y422.length co32] from (Kd.FK_slice_mk (Kd.R_reads' (Kd.R_mono (ok' := (fun k_ => some k_ ≠ (.slice (some ad411) t408.length co20 : Value).ownBlock ∧ some k_ ≠ (v414 : Value).ownBlock ∧ k_ ≠ gb412)) (Kd.R_types (Kd.R_apart' (HO424.out) (Kd.R_typed HO410.out) (by decide)) BK412.out (by decide)) (fun k_ hk => ⟨hk.1.2, ⟨hk.1.1.1.1.2, hk.2⟩⟩))).2.1 (Kd.R_F (Kd.R_mono (ok' := (fun k_ => some k_ ≠ (.slice (some ad411) t408.length co20 : Value).ownBlock ∧ some k_ ≠ (v414 : Value).ownBlock ∧ k_ ≠ gb412)) (Kd.R_types (Kd.R_apart' (HO424.out) (Kd.R_typed HO410.out) (by decide)) BK412.out (by decide)) (fun k_ hk => ⟨hk.1.2, ⟨hk.1.1.1.1.2, hk.2⟩⟩))))) (Reps.none _ _)))))); intro v426 w33 ho34 hb hg_ hnew_; clear hg_ hnew_; (first | rw [← Ny425.out] at ho34 | (simp only [Int.reduceToNat] at ho34; rw [← Ny425.out] at ho34)); have n0_ := Aside0.mk (Kd.R_below (by (with_reducible repeat (first | apply Kd.R_alloc | apply Kd.R_drewN | apply Kd.R_drew)); exact HO410.out) hb); have n1_ := Aside0.mk (Kd.R_below (by (with_reducible repeat (first | apply Kd.R_alloc | apply Kd.R_drewN | apply Kd.R_drew)); exact HO415.out) hb); have n2_ := Aside0.mk (Kd.N_lower ho34 (below_size (by repeat (first | (with_reducible first | exact HB.out | apply below_alloc | apply pw_below_drewN | apply below_drew1 | refine below_set ?_ GE412.out) | exact HB.out)))); have n3_ := Aside0.mk (blk_below (g := gb412) (o := .cells #[.int .i64 ((rd_T38 t408 (ji9)).f0), .int .i64 ((rd_T38 t408 (ji9)).f1), .int .i64 ((rd_T38 t408 (ji9)).f2)] 38 (0, 0)) (by (with_reducible repeat (first | refine blk_drewN ?_ _ | refine blk_drew ?_ | refine blk_alloc ?_ _)); exact BK412.out) hb); have n4_ := Aside0.mk (below_step (by repeat (first | (with_reducible first | exact HB.out | apply below_alloc | apply pw_below_drewN | apply below_drew1 | refine below_set ?_ GE412.out) | exact HB.out)) hb); clear HO410; clear HO415; clear BK412; clear HB; clear HO418; clear HO421; clear HO424; have HO410 := n0_; have HO415 := n1_; have HO427 := n2_; have BK412 := n3_; have HB := n4_; clear n0_ n1_ n2_ n3_ n4_; clear hb ho34; obtain ⟨Ao35, co35, eo35⟩ := Kd.N_slice HO427.out; subst eo35; have p428 : 0 ≤ ((ji13) : Int) := of_decide_eq_true (by first | (with_reducible assumption) | assumption); have q428 : (ji13) < (y425.length : Int) := of_decide_eq_true (by first | (with_reducible assumption) | assumption); obtain ⟨ad428, A428_0, c428_0, e428, hx428_0, hl428_0, hi428_0⟩ := at_L12 (Kd.N_reads' HO427.out).2.2 (ji13) p428 q428; cases e428; obtain ⟨ce428, hce428, hMe428, hcc428⟩ := Kd.N_get HO427.out [] (ji13) p428 (by first | exact q428 | exact of_decide_eq_true (by first | (with_reducible assumption) | assumption) | (have e_ := (Kd.N_reads' HO427.out).1; omega)); obtain ⟨ua428_0, uc428_0, rfl, ul428_0, ge428_0⟩ := Kd.FK_slice_open hMe428; have hv428_0 := hcc428 0 _ rfl; rw [Nat.add_zero, show ((Kd.slice 5 (Kd.int .u8))).sz = 1 from rfl, Nat.mul_one] at hv428_0; replace hv428_0 := Option.some.inj (hv428_0.symm.trans hx428_0); injection hv428_0 with hva_ hvn_ hvc_; rw [hva_] at ge428_0; rw [hvc_] at ul428_0; have HL428_0 := Aside0.mk (show Kd.V (Kd.int .u8) 5 _ w.heap.size _ _ (rd_L12 y425 (ji13)) from Kd.V_mk ul428_0 ge428_0); clear hva_ hvn_ hvc_ ge428_0 ul428_0; clear hcc428 hce428; have HR428_0 := Aside0.mk hi428_0; have HC428_0 := Aside0.mk hl428_0; clear hi428_0 hl428_0; replace p428 := eq_true p428; replace q428 := eq_true q428) | ((with_reducible refine gate_builtin (b := .append) (xs := #[.tmp 49, .tmp 50]) rfl ?_); (try (refine gate_guard (by rfl) ?_; dsimp only)); at_builtin; refine Kd.R_append_rows (Kd.int .u8) (w0 := w) w.heap.size rfl (.tmp 49) (.tmp 50) 23 5 (.int .u8 0) 1 rfl Try.underlying23 info5 rfl (by decide) (by omega) v414 t413 (rd_L12 y425 (ji13)) _ _ _ (fun _ => True) (fun _ => False) rfl rfl ?aO ?aR (fun _ _ h => h) (fun _ h => h.elim) ?aF ?aB ?aS ?aL ?_; (case aR => repeat (first | exact (by repeat (first | (with_reducible exact HR428_0.out) | (with_reducible refine Kd.C_alloc ?_ _) | (with_reducible refine Kd.C_drewN ?_ _) | (with_reducible refine Kd.C_drew ?_) | exact HR428_0.out)) | (with_reducible refine Kd.C_alloc ?_ _) | (with_reducible refine Kd.C_drewN ?_ _) | (with_reducible refine Kd.C_drew ?_))); (case aB => exact (by repeat (first | (with_reducible first | exact HB.out | apply below_alloc | apply pw_below_drewN | apply below_drew1 | refine below_set ?_ GE412.out) | exact HB.out))); (case aF => exact (fun _ _ => trivial)); (case aO => exact (by (with_reducible repeat (first | apply Kd.R_alloc | apply Kd.R_drewN | apply Kd.R_drew)); exact Kd.R_mono HO415.out (fun _ hk => trivial))); (case aS => exact (below_size (by repeat (first | (with_reducible first | exact HB.out | apply below_alloc | apply pw_below_drewN | apply below_drew1 | refine below_set ?_ GE412.out) | exact HB.out)))); (case aL => have := LMc16.out; omega); intro v430 w36 ho hb hg hat; rw [← Ny429.out] at ho; have n0_ := Aside0.mk (Kd.R_over' (by (with_reducible repeat (first | apply Kd.R_alloc | apply Kd.R_drewN | apply Kd.R_drew)); exact HO410.out) (Kd.R_typed (by (with_reducible repeat (first | apply Kd.R_alloc | apply Kd.R_drewN | apply Kd.R_drew)); exact HO415.out)) (by decide) hg); have n1_ := Aside0.mk (blk_grown (g := gb412) (o := .cells #[.int .i64 ((rd_T38 t408 (ji9)).f0), .int .i64 ((rd_T38 t408 (ji9)).f1), .int .i64 ((rd_T38 t408 (ji9)).f2)] 38 (0, 0)) (by (with_reducible repeat (first | refine blk_drewN ?_ _ | refine blk_drew ?_ | refine blk_alloc ?_ _)); exact BK412.out) hg (Kd.R_ne HO415.out BK412.out (by decide))); have n2_ := Aside0.mk (Kd.N_afterv (ok := (fun k_ => some k_ ≠ (.slice (some ad411) t408.length co20 : Value).ownBlock ∧ k_ ≠ gb412)) (by (with_reducible repeat (first | apply Kd.N_alloc | apply Kd.N_drewN | apply Kd.N_drew)); exact Kd.N_mono HO427.out (fun _ hk => ⟨⟨hk.1, hk.2.2⟩, hk.2.1⟩)) hg hat); have n3_ := Aside0.mk (Kd.V_afterv (ok := (fun k_ => some k_ ≠ (.slice (some ad411) t408.length co20 : Value).ownBlock ∧ some k_ ≠ (.slice (some ad428) y425.length co35 : Value).ownBlock ∧ k_ ≠ gb412)) (by (with_reducible repeat (first | apply Kd.V_alloc | apply Kd.V_drewN | apply Kd.V_drew)); exact Kd.V_mono HL428_0.out (fun _ hk => ⟨⟨hk.1.1, ⟨hk.2, hk.1.2.2⟩⟩, hk.1.2.1⟩)) hg hat); have n4_ := Aside0.mk (hb); have n5_ := Aside0.mk (ho); clear HO410; clear BK412; clear HO427; clear HL428_0; clear HB; clear HO415; have HO410 := n0_; have BK412 := n1_; have HO427 := n2_; have HL428_0 := n3_; have HB := n4_; have HO431 := n5_; clear n0_ n1_ n2_ n3_ n4_ n5_; clear ho hb hg hat; have hcz37_0 : w36.cell? ⟨gb412, 0, none⟩ = some (.int .i64 ((rd_T38 t408 (ji9)).f0)) := (blk_cell BK412.out 0).trans rfl; have hcz37_1 : w36.cell? ⟨gb412, 1, none⟩ = some (.int .i64 ((rd_T38 t408 (ji9)).f1)) := (blk_cell BK412.out 1).trans rfl; have hcz37_2 : w36.cell? ⟨gb412, 2, none⟩ = some (.int .i64 ((rd_T38 t408 (ji9)).f2)) := (blk_cell BK412.out 2).trans rfl; have hfz37_0 := blk_frozen BK412.out 0; have hfz37_1 := blk_frozen BK412.out 1; have hfz37_2 := blk_frozen BK412.out 2) | ((with_reducible refine gate_dst (N := 55) rfl ?_); (try (refine gate_guard (by rfl) ?_; dsimp only)); refine Kd.R_lit (Kd.int .u8) _ 5 ?hg (N := 55) ?hd (xs := ([((rd_T38 t408 (ji9)).f1) % 256] : List Int)) (inner := [.int .u8 (((rd_T38 t408 (ji9)).f1) % 256)]) (ok := fun _ => True) (okp := fun _ => True) ?hr ?hp (fun _ hk => hk) trivial (Below.refl _ _) (Nat.le_refl _) (by simp) ?_; (case hd => rfl); (case hg => rfl); (case hr => first | (go_simp; done) | (go_simp; rfl)); (case hp => exact (Reps.one (show Kd.M (Kd.int .u8) _ _ _ (((rd_T38 t408 (ji9)).f1) % 256) [.int .u8 (((rd_T38 t408 (ji9)).f1) % 256)] from rfl) (Reps.none _ _))); intro v433 w38 ho39 hb hg_ hnew_; clear hg_ hnew_; (first | rw [← Ny432.out] at ho39 | (simp only [Int.reduceToNat] at ho39; rw [← Ny432.out] at ho39)); have n0_ := Aside0.mk (Kd.R_below (by (with_reducible repeat (first | apply Kd.R_alloc | apply Kd.R_drewN | apply Kd.R_drew)); exact HO410.out) hb); have n1_ := Aside0.mk (Kd.N_elder' (by (with_reducible repeat (first | apply Kd.N_alloc | apply Kd.N_drewN | apply Kd.N_drew)); exact HO427.out) (Kd.R_base ho39) hb); have n2_ := Aside0.mk (Kd.V_elder' (by (with_reducible repeat (first | apply Kd.V_alloc | apply Kd.V_drewN | apply Kd.V_drew)); exact HL428_0.out) (Kd.R_base ho39) hb); have n3_ := Aside0.mk (Kd.R_elder' (by (with_reducible repeat (first | apply Kd.R_alloc | apply Kd.R_drewN | apply Kd.R_drew)); exact HO431.out) (Kd.R_base ho39) hb); have n4_ := Aside0.mk (Kd.R_lower (Kd.R_new' ho39 (Kd.R_lt (by (with_reducible repeat (first | apply Kd.R_alloc | apply Kd.R_drewN | apply Kd.R_drew)); exact HO431.out))) (below_size (by repeat (first | (with_reducible first | exact HB.out | apply below_alloc | apply pw_below_drewN | apply below_drew1 | refine below_set ?_ GE412.out) | exact HB.out)))); have n5_ := Aside0.mk (blk_below (g := gb412) (o := .cells #[.int .i64 ((rd_T38 t408 (ji9)).f0), .int .i64 ((rd_T38 t408 (ji9)).f1), .int .i64 ((rd_T38 t408 (ji9)).f2)] 38 (0, 0)) (by (with_reducible repeat (first | refine blk_drewN ?_ _ | refine blk_drew ?_ | refine blk_alloc ?_ _)); exact BK412.out) hb); have n6_ := Aside0.mk (below_step (by repeat (first | (with_reducible first | exact HB.out | apply below_alloc | apply pw_below_drewN | apply below_drew1 | refine below_set ?_ GE412.out) | exact HB.out)) hb); clear HO410; clear HO427; clear HL428_0; clear HO431; clear BK412; clear HB; have HO410 := n0_; have HO427 := n1_; have HL428_0 := n2_; have HO431 := n3_; have HO434 := n4_; have BK412 := n5_; have HB := n6_; clear n0_ n1_ n2_ n3_ n4_ n5_ n6_; clear hb ho39; have hcz40_0 : w38.cell? ⟨gb412, 0, none⟩ = some (.int .i64 ((rd_T38 t408 (ji9)).f0)) := (blk_cell BK412.out 0).trans rfl; have hcz40_1 : w38.cell? ⟨gb412, 1, none⟩ = some (.int .i64 ((rd_T38 t408 (ji9)).f1)) := (blk_cell BK412.out 1).trans rfl; have hcz40_2 : w38.cell? ⟨gb412, 2, none⟩ = some (.int .i64 ((rd_T38 t408 (ji9)).f2)) := (blk_cell BK412.out 2).trans rfl; have hfz40_0 := blk_frozen BK412.out 0; have hfz40_1 := blk_frozen BK412.out 1; have hfz40_2 := blk_frozen BK412.out 2) | ((with_reducible refine gate_callee (f := 18) rfl ?_); refine goesL_ (some 58) rfl rfl Try.func18 (by kernel_rfl) rfl #[.int .i64 ((rd_T38 t408 (ji9)).f0)] rfl (by (try simp only [List.map_toArray, List.map_cons, List.map_nil]); first | done | (simp only [hji9]; rfl) | rfl | (simp only [List.length_drop, List.length_take]; rfl)) ?_; (with_reducible refine (csets_Wide.calls ((rd_T38 t408 (ji9)).f0) t435 _ A17.out).mono ?_); rintro e w' ⟨rfl, ⟨nd, rfl⟩⟩; refine ⟨_, rfl, ?_⟩))
 (try simp only [Act.put, List.setIfInBounds_toArray, List.set_cons_zero, List.set_cons_succ])
 go_cut [11] (fun v11 wc => ∃ (kq : Nat) (x11_17 : List Int), Aside0 (sobriquetlaw18_TeletexPlaces.j0 kq a2 y429 x11_17 ((rd_T38 t408 (ji9)).f0) ((rd_T38 t408 (ji9)).f1) ((rd_T38 t408 (ji9)).f2) = some r) ∧ Aside0 (kq ≤ k) ∧ Aside0 (Kd.R (Kd.int .u8) 5 wc w.heap.size (fun k_ => some k_ ≠ (v11 : Value).ownBlock) v430 y429) ∧ Aside0 (Kd.R (Kd.int .u8) 5 wc w.heap.size (fun k_ => some k_ ≠ (v430 : Value).ownBlock) v11 x11_17) ∧ Aside0 (wc.heap[gb412]? = some (.cells #[.int .i64 ((rd_T38 t408 (ji9)).f0), .int .i64 ((rd_T38 t408 (ji9)).f1), .int .i64 ((rd_T38 t408 (ji9)).f2)] 38 (0, 0))) ∧ Aside0 (Below w.heap.size w wc))
 case first =>
  have H := HC18.out
  clear HC18
  by_cases c41 : t435 = true
  rotate_left
  ·replace c41 := Bool.eq_false_iff.mpr c41
   subst c41
   have H1 : (sobriquetlaw18_TeletexPlaces.j0 k a2 y429 y432 ((rd_T38 t408 (ji9)).f0) ((rd_T38 t408 (ji9)).f1) ((rd_T38 t408 (ji9)).f2)) = some r := by rw [if_neg (show ¬ (false = true) by decide)] at H; exact H
   clear H
   have H := H1
   clear H1
   have H' := Aside0.mk H
   clear H
   go_wp2
   go_meet
   case rel => exact ⟨_, (y432), H', ⟨by first | omega | exact Nat.le_refl _⟩, ⟨by (with_reducible repeat (first | apply Kd.R_alloc | apply Kd.R_drewN | apply Kd.R_drew)); exact Kd.R_mono HO431.out (fun _ hk => hk.2)⟩, ⟨by (with_reducible repeat (first | apply Kd.R_alloc | apply Kd.R_drewN | apply Kd.R_drew)); exact Kd.R_mono HO434.out (fun _ hk => hk.2)⟩, ⟨by (with_reducible repeat (first | refine blk_drewN ?_ _ | refine blk_drew ?_ | refine blk_alloc ?_ _)); exact BK412.out⟩, ⟨by repeat (first | (with_reducible first | exact HB.out | apply below_alloc | apply pw_below_drewN | apply below_drew1 | refine below_set ?_ GE412.out) | exact HB.out)⟩⟩
  subst c41
  have H1 : (sobriquetlaw18_TeletexPlaces.j0 k a2 y429 (([(wrap64 (Int.tdiv ((rd_T38 t408 (ji9)).f1) 256)) % 256, ((rd_T38 t408 (ji9)).f1) % 256] : List Int)) ((rd_T38 t408 (ji9)).f0) ((rd_T38 t408 (ji9)).f1) ((rd_T38 t408 (ji9)).f2)) = some r := by rw [if_pos rfl] at H; exact H
  clear H
  have H := H1
  clear H1
  obtain ⟨y436, hy436⟩ : ∃ y_ : List Int, y_ = (([(wrap64 (Int.tdiv ((rd_T38 t408 (ji9)).f1) 256)) % 256, ((rd_T38 t408 (ji9)).f1) % 256] : List Int)) := ⟨_, rfl⟩
  replace H : (sobriquetlaw18_TeletexPlaces.j0 k a2 y429 y436 ((rd_T38 t408 (ji9)).f0) ((rd_T38 t408 (ji9)).f1) ((rd_T38 t408 (ji9)).f2)) = some r := by first | (rw [hy436]; with_reducible exact H) | (have H2_ := (Option.bind_some _ _).symm.trans H; rw [hy436]; with_reducible exact H2_) | (have H2_ := (Option.bind_some _ _).symm.trans H; with_reducible exact H2_) | with_reducible exact H | (rw [hy436]; exact H) | exact H
  have Ny436 := Aside0.mk hy436
  clear hy436
  have H' := Aside0.mk H
  clear H
  have hcz42_0 : w38.cell? ⟨gb412, 0, none⟩ = some (.int .i64 ((rd_T38 t408 (ji9)).f0)) := (blk_cell BK412.out 0).trans rfl
  have hcz42_1 : w38.cell? ⟨gb412, 1, none⟩ = some (.int .i64 ((rd_T38 t408 (ji9)).f1)) := (blk_cell BK412.out 1).trans rfl
  have hcz42_2 : w38.cell? ⟨gb412, 2, none⟩ = some (.int .i64 ((rd_T38 t408 (ji9)).f2)) := (blk_cell BK412.out 2).trans rfl
  have hfz42_0 := blk_frozen BK412.out 0
  have hfz42_1 := blk_frozen BK412.out 1
  have hfz42_2 := blk_frozen BK412.out 2
  go_wp2_with (first | ((with_reducible refine gate_dst (N := 66) rfl ?_); (try (refine gate_guard (by rfl) ?_; dsimp only)); refine Kd.R_lit (Kd.int .u8) _ 5 ?hg (N := 66) ?hd (xs := ([(wrap64 (Int.tdiv ((rd_T38 t408 (ji9)).f1) 256)) % 256, ((rd_T38 t408 (ji9)).f1) % 256] : List Int)) (inner := [.int .u8 ((wrap64 (Int.tdiv ((rd_T38 t408 (ji9)).f1) 256)) % 256), .int .u8 (((rd_T38 t408 (ji9)).f1) % 256)]) (ok := fun _ => True) (okp := fun _ => True) ?hr ?hp (fun _ hk => hk) trivial (Below.refl _ _) (Nat.le_refl _) (by simp) ?_; (case hd => rfl); (case hg => rfl); (case hr => first | (go_simp; done) | (go_simp; rfl)); (case hp => exact (Reps.one (show Kd.M (Kd.int .u8) _ _ _ ((wrap64 (Int.tdiv ((rd_T38 t408 (ji9)).f1) 256)) % 256) [.int .u8 ((wrap64 (Int.tdiv ((rd_T38 t408 (ji9)).f1) 256)) % 256)] from rfl) (Reps.one (show Kd.M (Kd.int .u8) _ _ _ (((rd_T38 t408 (ji9)).f1) % 256) [.int .u8 (((rd_T38 t408 (ji9)).f1) % 256)] from rfl) (Reps.none _ _)))); intro v437 w43 ho44 hb hg_ hnew_; clear hg_ hnew_; (first | rw [← Ny436.out] at ho44 | (simp only [Int.reduceToNat] at ho44; rw [← Ny436.out] at ho44)); have n0_ := Aside0.mk (Kd.R_below (by (with_reducible repeat (first | apply Kd.R_alloc | apply Kd.R_drewN | apply Kd.R_drew)); exact HO410.out) hb); have n1_ := Aside0.mk (Kd.N_elder' (by (with_reducible repeat (first | apply Kd.N_alloc | apply Kd.N_drewN | apply Kd.N_drew)); exact HO427.out) (Kd.R_base ho44) hb); have n2_ := Aside0.mk (Kd.V_elder' (by (with_reducible repeat (first | apply Kd.V_alloc | apply Kd.V_drewN | apply Kd.V_drew)); exact HL428_0.out) (Kd.R_base ho44) hb); have n3_ := Aside0.mk (Kd.R_elder' (by (with_reducible repeat (first | apply Kd.R_alloc | apply Kd.R_drewN | apply Kd.R_drew)); exact HO431.out) (Kd.R_base ho44) hb); have n4_ := Aside0.mk (Kd.R_elder' (by (with_reducible repeat (first | apply Kd.R_alloc | apply Kd.R_drewN | apply Kd.R_drew)); exact HO434.out) (Kd.R_base ho44) hb); have n5_ := Aside0.mk (Kd.R_lower (Kd.R_new' (Kd.R_new' ho44 (Kd.R_lt (by (with_reducible repeat (first | apply Kd.R_alloc | apply Kd.R_drewN | apply Kd.R_drew)); exact HO431.out))) (Kd.R_lt (by (with_reducible repeat (first | apply Kd.R_alloc | apply Kd.R_drewN | apply Kd.R_drew)); exact HO434.out))) (below_size (by repeat (first | (with_reducible first | exact HB.out | apply below_alloc | apply pw_below_drewN | apply below_drew1 | refine below_set ?_ GE412.out) | exact HB.out)))); have n6_ := Aside0.mk (blk_below (g := gb412) (o := .cells #[.int .i64 ((rd_T38 t408 (ji9)).f0), .int .i64 ((rd_T38 t408 (ji9)).f1), .int .i64 ((rd_T38 t408 (ji9)).f2)] 38 (0, 0)) (by (with_reducible repeat (first | refine blk_drewN ?_ _ | refine blk_drew ?_ | refine blk_alloc ?_ _)); exact BK412.out) hb); have n7_ := Aside0.mk (below_step (by repeat (first | (with_reducible first | exact HB.out | apply below_alloc | apply pw_below_drewN | apply below_drew1 | refine below_set ?_ GE412.out) | exact HB.out)) hb); clear HO410; clear HO427; clear HL428_0; clear HO431; clear HO434; clear BK412; clear HB; have HO410 := n0_; have HO427 := n1_; have HL428_0 := n2_; have HO431 := n3_; have HO434 := n4_; have HO438 := n5_; have BK412 := n6_; have HB := n7_; clear n0_ n1_ n2_ n3_ n4_ n5_ n6_ n7_; clear hb ho44))
  go_meet
  case rel => exact ⟨_, (y436), H', ⟨by first | omega | exact Nat.le_refl _⟩, ⟨by (with_reducible repeat (first | apply Kd.R_alloc | apply Kd.R_drewN | apply Kd.R_drew)); exact Kd.R_mono HO431.out (fun _ hk => hk.2)⟩, ⟨by (with_reducible repeat (first | apply Kd.R_alloc | apply Kd.R_drewN | apply Kd.R_drew)); exact Kd.R_mono HO438.out (fun _ hk => hk.1.2)⟩, ⟨by (with_reducible repeat (first | refine blk_drewN ?_ _ | refine blk_drew ?_ | refine blk_alloc ?_ _)); exact BK412.out⟩, ⟨by repeat (first | (with_reducible first | exact HB.out | apply below_alloc | apply pw_below_drewN | apply below_drew1 | refine below_set ?_ GE412.out) | exact HB.out)⟩⟩
 case rest =>
  clear HC18
  try clear c1
  try clear p2
  try clear c4
  try clear p4
  try clear q4
  try clear hx4
  try clear c5
  try clear c5b0
  try clear c5b1
  try clear c5b2
  try clear c6
  try clear p6
  try clear c8
  try clear c8b0
  try clear c8b1
  try clear c10
  try clear c10b0
  try clear c11
  try clear c11b0
  try clear c14
  try clear c14b0
  try clear c15
  try clear c15b0
  try clear c16
  try clear c17
  try clear c18
  try clear c41
  try clear p41
  try clear q41
  try clear hx41
  try clear c42
  try clear p42
  try clear q42
  try clear hx42
  try clear hcz22_0
  try clear hcz22_1
  try clear hcz22_2
  try clear hcz37_0
  try clear hcz37_1
  try clear hcz37_2
  try clear hcz40_0
  try clear hcz40_1
  try clear hcz40_2
  try clear hcz42_0
  try clear hcz42_1
  try clear hcz42_2
  try clear hfz22_0
  try clear hfz22_1
  try clear hfz22_2
  try clear hfz37_0
  try clear hfz37_1
  try clear hfz37_2
  try clear hfz40_0
  try clear hfz40_1
  try clear hfz40_2
  try clear hfz42_0
  try clear hfz42_1
  try clear hfz42_2
  try clear hx411_0
  try clear hx411_1
  try clear hx411_2
  try clear hx428_0
  try clear p411
  try clear p428
  try clear q411
  try clear q428
  obtain ⟨kq, x11_17, HA, HJ17, HO_9, HO_11, BK412, HB⟩ := hcut
  cases kq with
  | zero => exact absurd HA.out (by simp [sobriquetlaw18_TeletexPlaces.j0])
  | succ kj17 =>
   have H := HA.out
   clear HA
   simp only [sobriquetlaw18_TeletexPlaces.j0] at H
   replace H := Option.bind_eq_some_iff.mp H
   obtain ⟨t439, A450, H⟩ := H
   replace H : (if t439.length + x11_17.length < 140737488355328 then ((teletex_Read.f kj17 (t439 ++ x11_17)).bind fun bt445 => (if bt445.2.2 = 0 then ((sobriquetkeep_Ints.f kj17 bt445.1 (([((rd_T38 t408 (ji9)).f2)] : List Int))).bind fun t453 => (sobriquetlaw18_TeletexPlaces.j1 kj17 a2 y429 (!t453) ((rd_T38 t408 (ji9)).f0) ((rd_T38 t408 (ji9)).f1) ((rd_T38 t408 (ji9)).f2))) else (sobriquetlaw18_TeletexPlaces.j1 kj17 a2 y429 true ((rd_T38 t408 (ji9)).f0) ((rd_T38 t408 (ji9)).f1) ((rd_T38 t408 (ji9)).f2)))) else (none)) = some r := H
   have A45 := Aside0.mk A450
   clear A450
   by_cases c46 : t439.length + x11_17.length < 140737488355328
   rotate_left
   ·rw [if_neg c46] at H
    exact absurd H (by simp)
   rw [if_pos c46] at H
   have LMc46 := Aside0.mk c46
   clear c46
   obtain ⟨y442, hy442⟩ : ∃ y_ : List Int, y_ = (t439 ++ x11_17) := ⟨_, rfl⟩
   replace H : ((teletex_Read.f kj17 y442).bind fun bt445 => (if bt445.2.2 = 0 then ((sobriquetkeep_Ints.f kj17 bt445.1 (([((rd_T38 t408 (ji9)).f2)] : List Int))).bind fun t453 => (sobriquetlaw18_TeletexPlaces.j1 kj17 a2 y429 (!t453) ((rd_T38 t408 (ji9)).f0) ((rd_T38 t408 (ji9)).f1) ((rd_T38 t408 (ji9)).f2))) else (sobriquetlaw18_TeletexPlaces.j1 kj17 a2 y429 true ((rd_T38 t408 (ji9)).f0) ((rd_T38 t408 (ji9)).f1) ((rd_T38 t408 (ji9)).f2)))) = some r := by first | (rw [hy442]; with_reducible exact H) | (have H2_ := (Option.bind_some _ _).symm.trans H; rw [hy442]; with_reducible exact H2_) | (have H2_ := (Option.bind_some _ _).symm.trans H; with_reducible exact H2_) | with_reducible exact H | (rw [hy442]; exact H) | exact H
   have Ny442 := Aside0.mk hy442
   clear hy442
   replace H := Option.bind_eq_some_iff.mp H
   obtain ⟨⟨t445, t446, t447⟩, A470, H⟩ := H
   replace H : (if t447 = 0 then ((sobriquetkeep_Ints.f kj17 t445 (([((rd_T38 t408 (ji9)).f2)] : List Int))).bind fun t453 => (sobriquetlaw18_TeletexPlaces.j1 kj17 a2 y429 (!t453) ((rd_T38 t408 (ji9)).f0) ((rd_T38 t408 (ji9)).f1) ((rd_T38 t408 (ji9)).f2))) else (sobriquetlaw18_TeletexPlaces.j1 kj17 a2 y429 true ((rd_T38 t408 (ji9)).f0) ((rd_T38 t408 (ji9)).f1) ((rd_T38 t408 (ji9)).f2))) = some r := H
   have A47 := Aside0.mk A470
   clear A470
   have HC48 := Aside0.mk H
   clear H
   obtain ⟨Ao49, co49, eo49⟩ := Kd.R_slice HO_9.out
   subst eo49
   go_upto_region 13 with (first | ((with_reducible refine gate_callee (f := 19) rfl ?_); refine goesL_ (some 69) rfl rfl Try.func19 (by kernel_rfl) rfl #[.slice Ao49 y429.length co49] rfl (by (try simp only [List.map_toArray, List.map_cons, List.map_nil]); first | done | rfl | (simp only [List.length_drop, List.length_take]; rfl)) ?_; (with_reducible refine (sobriquetkeep_Twin.calls _ _ y429 t439 _ ?side1 ?side2 A45.out).mono ?_); (case side1 => repeat (first | exact (Kd.R_reads' HO_9.out).2.2 | (with_reducible refine Kd.C_alloc ?_ _) | (with_reducible refine Kd.C_drewN ?_ _) | (with_reducible refine Kd.C_drew ?_))); (case side2 => exact (Kd.R_reads' HO_9.out).2.1); rintro e w50 ⟨v440, rfl, ho0, hb⟩; refine ⟨_, rfl, ?_⟩; have n0_ := Aside0.mk (Kd.R_elder' (by (with_reducible repeat (first | apply Kd.R_alloc | apply Kd.R_drewN | apply Kd.R_drew)); exact HO_9.out) (Kd.R_base ho0) hb); have n1_ := Aside0.mk (Kd.R_elder' (by (with_reducible repeat (first | apply Kd.R_alloc | apply Kd.R_drewN | apply Kd.R_drew)); exact HO_11.out) (Kd.R_base ho0) hb); have n2_ := Aside0.mk (Kd.R_lower (Kd.R_new' (Kd.R_new' ho0 (Kd.R_lt (by (with_reducible repeat (first | apply Kd.R_alloc | apply Kd.R_drewN | apply Kd.R_drew)); exact HO_9.out))) (Kd.R_lt (by (with_reducible repeat (first | apply Kd.R_alloc | apply Kd.R_drewN | apply Kd.R_drew)); exact HO_11.out))) (below_size (by repeat (first | (with_reducible first | exact HB.out | apply below_alloc | apply pw_below_drewN | apply below_drew1 | refine below_set ?_ GE412.out) | exact HB.out)))); have n3_ := Aside0.mk (blk_below (g := gb412) (o := .cells #[.int .i64 ((rd_T38 t408 (ji9)).f0), .int .i64 ((rd_T38 t408 (ji9)).f1), .int .i64 ((rd_T38 t408 (ji9)).f2)] 38 (0, 0)) (by (with_reducible repeat (first | refine blk_drewN ?_ _ | refine blk_drew ?_ | refine blk_alloc ?_ _)); exact BK412.out) hb); have n4_ := Aside0.mk (below_step (by repeat (first | (with_reducible first | exact HB.out | apply below_alloc | apply pw_below_drewN | apply below_drew1 | refine below_set ?_ GE412.out) | exact HB.out)) hb); clear HO_9; clear HO_11; clear BK412; clear HB; have HO_9 := n0_; have HO_11 := n1_; have HO441 := n2_; have BK412 := n3_; have HB := n4_; clear n0_ n1_ n2_ n3_ n4_; (try clear hb); (try clear hb2); (try clear hk); (try clear hi); (try clear ho0); obtain ⟨Ao52, co52, eo52⟩ := Kd.R_slice HO_11.out; subst eo52) | ((with_reducible refine gate_builtin (b := .append) (xs := #[.tmp 69, .tmp 70]) rfl ?_); (try (refine gate_guard (by rfl) ?_; dsimp only)); at_builtin; refine Kd.R_append_rows (Kd.int .u8) (w0 := w) w.heap.size rfl (.tmp 69) (.tmp 70) 23 5 (.int .u8 0) 1 rfl Try.underlying23 info5 rfl (by decide) (by omega) v440 t439 x11_17 _ _ _ (fun k_ => some k_ ≠ (.slice Ao49 y429.length co49 : Value).ownBlock ∧ some k_ ≠ (.slice Ao52 x11_17.length co52 : Value).ownBlock) (fun _ => False) rfl rfl ?aO ?aR (fun _ _ h => h) (fun _ h => h.elim) ?aF ?aB ?aS ?aL ?_; (case aR => repeat (first | exact (Kd.R_reads' HO_11.out).2.2 | (with_reducible refine Kd.C_alloc ?_ _) | (with_reducible refine Kd.C_drewN ?_ _) | (with_reducible refine Kd.C_drew ?_))); (case aB => exact (by repeat (first | (with_reducible first | exact HB.out | apply below_alloc | apply pw_below_drewN | apply below_drew1 | refine below_set ?_ GE412.out) | exact HB.out))); (case aF => exact (fun k_ hk => ⟨Kd.fresh' (Kd.R_lt (by (with_reducible repeat (first | apply Kd.R_alloc | apply Kd.R_drewN | apply Kd.R_drew)); exact HO_9.out)) k_ hk, Kd.fresh' (Kd.R_lt (by (with_reducible repeat (first | apply Kd.R_alloc | apply Kd.R_drewN | apply Kd.R_drew)); exact HO_11.out)) k_ hk⟩)); (case aO => exact (by (with_reducible repeat (first | apply Kd.R_alloc | apply Kd.R_drewN | apply Kd.R_drew)); exact Kd.R_mono HO441.out (fun _ hk => ⟨hk.1.2, hk.2⟩))); (case aS => exact (below_size (by repeat (first | (with_reducible first | exact HB.out | apply below_alloc | apply pw_below_drewN | apply below_drew1 | refine below_set ?_ GE412.out) | exact HB.out)))); (case aL => have := LMc46.out; omega); intro v443 w51 ho hb hg hat; rw [← Ny442.out] at ho; have n0_ := Aside0.mk (Kd.R_after (ok := (fun k_ => some k_ ≠ (.slice Ao52 x11_17.length co52 : Value).ownBlock)) (by (with_reducible repeat (first | apply Kd.R_alloc | apply Kd.R_drewN | apply Kd.R_drew)); exact HO_9.out) hg hat); have n1_ := Aside0.mk (Kd.R_after (ok := (fun k_ => some k_ ≠ (.slice Ao49 y429.length co49 : Value).ownBlock)) (by (with_reducible repeat (first | apply Kd.R_alloc | apply Kd.R_drewN | apply Kd.R_drew)); exact HO_11.out) hg hat); have n2_ := Aside0.mk (blk_grown (g := gb412) (o := .cells #[.int .i64 ((rd_T38 t408 (ji9)).f0), .int .i64 ((rd_T38 t408 (ji9)).f1), .int .i64 ((rd_T38 t408 (ji9)).f2)] 38 (0, 0)) (by (with_reducible repeat (first | refine blk_drewN ?_ _ | refine blk_drew ?_ | refine blk_alloc ?_ _)); exact BK412.out) hg (Kd.R_ne HO441.out BK412.out (by decide))); have n3_ := Aside0.mk (hb); have n4_ := Aside0.mk (ho); clear HO_9; clear HO_11; clear BK412; clear HB; clear HO441; have HO_9 := n0_; have HO_11 := n1_; have BK412 := n2_; have HB := n3_; have HO444 := n4_; clear n0_ n1_ n2_ n3_ n4_; clear ho hb hg hat; obtain ⟨Ao53, co53, eo53⟩ := Kd.R_slice HO444.out; subst eo53) | ((with_reducible refine gate_callee (f := 13) rfl ?_); refine goesL_ (some 72) rfl rfl Try.func13 (by kernel_rfl) rfl #[.slice Ao53 y442.length co53] rfl (by (try simp only [List.map_toArray, List.map_cons, List.map_nil]); first | done | rfl | (simp only [List.length_drop, List.length_take]; rfl)) ?_; (with_reducible refine (teletex_Read.calls kj17 _ _ y442 t445 t446 t447 _ ?side1 ?side2 A47.out).mono ?_); (case side1 => repeat (first | exact (Kd.R_reads' HO444.out).2.2 | (with_reducible refine Kd.C_alloc ?_ _) | (with_reducible refine Kd.C_drewN ?_ _) | (with_reducible refine Kd.C_drew ?_))); (case side2 => exact (Kd.R_reads' HO444.out).2.1); rintro e w54 ⟨v448, rfl, ho0, hb⟩; refine ⟨_, rfl, ?_⟩; have n0_ := Aside0.mk (Kd.R_below (by (with_reducible repeat (first | apply Kd.R_alloc | apply Kd.R_drewN | apply Kd.R_drew)); exact HO_9.out) hb); have n1_ := Aside0.mk (Kd.R_below (by (with_reducible repeat (first | apply Kd.R_alloc | apply Kd.R_drewN | apply Kd.R_drew)); exact HO_11.out) hb); have n2_ := Aside0.mk (Kd.R_below (by (with_reducible repeat (first | apply Kd.R_alloc | apply Kd.R_drewN | apply Kd.R_drew)); exact HO444.out) hb); have n3_ := Aside0.mk (Kd.R_lower ho0 (below_size (by repeat (first | (with_reducible first | exact HB.out | apply below_alloc | apply pw_below_drewN | apply below_drew1 | refine below_set ?_ GE412.out) | exact HB.out)))); have n4_ := Aside0.mk (blk_below (g := gb412) (o := .cells #[.int .i64 ((rd_T38 t408 (ji9)).f0), .int .i64 ((rd_T38 t408 (ji9)).f1), .int .i64 ((rd_T38 t408 (ji9)).f2)] 38 (0, 0)) (by (with_reducible repeat (first | refine blk_drewN ?_ _ | refine blk_drew ?_ | refine blk_alloc ?_ _)); exact BK412.out) hb); have n5_ := Aside0.mk (below_step (by repeat (first | (with_reducible first | exact HB.out | apply below_alloc | apply pw_below_drewN | apply below_drew1 | refine below_set ?_ GE412.out) | exact HB.out)) hb); clear HO_9; clear HO_11; clear HO444; clear BK412; clear HB; have HO_9 := n0_; have HO_11 := n1_; have HO444 := n2_; have HO449 := n3_; have BK412 := n4_; have HB := n5_; clear n0_ n1_ n2_ n3_ n4_ n5_; (try clear hb); (try clear hb2); (try clear hk); (try clear hi); (try clear ho0)))
   (try simp only [Act.put, List.setIfInBounds_toArray, List.set_cons_zero, List.set_cons_succ])
   go_cut [85] (fun v85 wc => ∃ (kq : Nat) (x85_47 : Bool), v85 = .bool x85_47 ∧ Aside0 (sobriquetlaw18_TeletexPlaces.j1 kq a2 y429 x85_47 ((rd_T38 t408 (ji9)).f0) ((rd_T38 t408 (ji9)).f1) ((rd_T38 t408 (ji9)).f2) = some r) ∧ Aside0 (kq ≤ kj17) ∧ Aside0 (Kd.R (Kd.int .u8) 5 wc w.heap.size (fun _ => True) (.slice Ao49 y429.length co49) y429) ∧ Aside0 (wc.heap[gb412]? = some (.cells #[.int .i64 ((rd_T38 t408 (ji9)).f0), .int .i64 ((rd_T38 t408 (ji9)).f1), .int .i64 ((rd_T38 t408 (ji9)).f2)] 38 (0, 0))) ∧ Aside0 (Below w.heap.size w wc))
   case first =>
    have H := HC48.out
    clear HC48
    by_cases c55 : t447 = 0
    rotate_left
    ·rw [if_neg c55] at H
     have c55b0 : (t447 == 0) = false := beq_eq_false_iff_ne.mpr c55
     have c55b1 : (t447 != 0) = true := bne_iff_ne.mpr c55
     (first | rw [c55b0] | (simp only [i64_w, i32_w]; rw [c55b0]) | skip)
     have H' := Aside0.mk H
     clear H
     go_wp2
     go_meet
     case rel => exact ⟨_, (true), (by first | rfl | (simp; done) | (simp [*]; done)), H', ⟨by have := HJ17.out; first | omega | exact Nat.le_refl _⟩, ⟨by (with_reducible repeat (first | apply Kd.R_alloc | apply Kd.R_drewN | apply Kd.R_drew)); exact Kd.R_mono HO_9.out (fun _ hk => trivial)⟩, ⟨by (with_reducible repeat (first | refine blk_drewN ?_ _ | refine blk_drew ?_ | refine blk_alloc ?_ _)); exact BK412.out⟩, ⟨by repeat (first | (with_reducible first | exact HB.out | apply below_alloc | apply pw_below_drewN | apply below_drew1 | refine below_set ?_ GE412.out) | exact HB.out)⟩⟩
    rw [if_pos c55] at H
    have c55b0 : (t447 == 0) = true := beq_iff_eq.mpr c55
    have c55b1 : (t447 != 0) = false := bne_eq_false_iff_eq.mpr c55
    clear c55
    (first | rw [c55b0] | (simp only [i64_w, i32_w]; rw [c55b0]) | skip)
    obtain ⟨y450, hy450⟩ : ∃ y_ : List Int, y_ = (([((rd_T38 t408 (ji9)).f2)] : List Int)) := ⟨_, rfl⟩
    replace H : ((sobriquetkeep_Ints.f kj17 t445 y450).bind fun t453 => (sobriquetlaw18_TeletexPlaces.j1 kj17 a2 y429 (!t453) ((rd_T38 t408 (ji9)).f0) ((rd_T38 t408 (ji9)).f1) ((rd_T38 t408 (ji9)).f2))) = some r := by first | (rw [hy450]; with_reducible exact H) | (have H2_ := (Option.bind_some _ _).symm.trans H; rw [hy450]; with_reducible exact H2_) | (have H2_ := (Option.bind_some _ _).symm.trans H; with_reducible exact H2_) | with_reducible exact H | (rw [hy450]; exact H) | exact H
    have Ny450 := Aside0.mk hy450
    clear hy450
    replace H := Option.bind_eq_some_iff.mp H
    obtain ⟨t453, A560, H⟩ := H
    replace H : (sobriquetlaw18_TeletexPlaces.j1 kj17 a2 y429 (!t453) ((rd_T38 t408 (ji9)).f0) ((rd_T38 t408 (ji9)).f1) ((rd_T38 t408 (ji9)).f2)) = some r := H
    have A56 := Aside0.mk A560
    clear A560
    have H' := Aside0.mk H
    clear H
    have hcz57_0 : w54.cell? ⟨gb412, 0, none⟩ = some (.int .i64 ((rd_T38 t408 (ji9)).f0)) := (blk_cell BK412.out 0).trans rfl
    have hcz57_1 : w54.cell? ⟨gb412, 1, none⟩ = some (.int .i64 ((rd_T38 t408 (ji9)).f1)) := (blk_cell BK412.out 1).trans rfl
    have hcz57_2 : w54.cell? ⟨gb412, 2, none⟩ = some (.int .i64 ((rd_T38 t408 (ji9)).f2)) := (blk_cell BK412.out 2).trans rfl
    have hfz57_0 := blk_frozen BK412.out 0
    have hfz57_1 := blk_frozen BK412.out 1
    have hfz57_2 := blk_frozen BK412.out 2
    go_wp2_with (first | ((with_reducible refine gate_dst (N := 82) rfl ?_); (try (refine gate_guard (by rfl) ?_; dsimp only)); refine Kd.R_lit (Kd.int .i64) _ 3 ?hg (N := 82) ?hd (xs := ([((rd_T38 t408 (ji9)).f2)] : List Int)) (inner := [.int .i64 ((rd_T38 t408 (ji9)).f2)]) (ok := fun _ => True) (okp := fun _ => True) ?hr ?hp (fun _ hk => hk) trivial (Below.refl _ _) (Nat.le_refl _) (by simp) ?_; (case hd => rfl); (case hg => rfl); (case hr => first | (go_simp; done) | (go_simp; rfl)); (case hp => exact (Reps.one (show Kd.M (Kd.int .i64) _ _ _ ((rd_T38 t408 (ji9)).f2) [.int .i64 ((rd_T38 t408 (ji9)).f2)] from rfl) (Reps.none _ _))); intro v451 w58 ho59 hb hg_ hnew_; clear hg_ hnew_; (first | rw [← Ny450.out] at ho59 | (simp only [Int.reduceToNat] at ho59; rw [← Ny450.out] at ho59)); have n0_ := Aside0.mk (Kd.R_below (by (with_reducible repeat (first | apply Kd.R_alloc | apply Kd.R_drewN | apply Kd.R_drew)); exact HO_9.out) hb); have n1_ := Aside0.mk (Kd.R_below (by (with_reducible repeat (first | apply Kd.R_alloc | apply Kd.R_drewN | apply Kd.R_drew)); exact HO_11.out) hb); have n2_ := Aside0.mk (Kd.R_below (by (with_reducible repeat (first | apply Kd.R_alloc | apply Kd.R_drewN | apply Kd.R_drew)); exact HO444.out) hb); have n3_ := Aside0.mk (Kd.R_elder' (by (with_reducible repeat (first | apply Kd.R_alloc | apply Kd.R_drewN | apply Kd.R_drew)); exact HO449.out) (Kd.R_base ho59) hb); have n4_ := Aside0.mk (Kd.R_lower (Kd.R_new' ho59 (Kd.R_lt (by (with_reducible repeat (first | apply Kd.R_alloc | apply Kd.R_drewN | apply Kd.R_drew)); exact HO449.out))) (below_size (by repeat (first | (with_reducible first | exact HB.out | apply below_alloc | apply pw_below_drewN | apply below_drew1 | refine below_set ?_ GE412.out) | exact HB.out)))); have n5_ := Aside0.mk (blk_below (g := gb412) (o := .cells #[.int .i64 ((rd_T38 t408 (ji9)).f0), .int .i64 ((rd_T38 t408 (ji9)).f1), .int .i64 ((rd_T38 t408 (ji9)).f2)] 38 (0, 0)) (by (with_reducible repeat (first | refine blk_drewN ?_ _ | refine blk_drew ?_ | refine blk_alloc ?_ _)); exact BK412.out) hb); have n6_ := Aside0.mk (below_step (by repeat (first | (with_reducible first | exact HB.out | apply below_alloc | apply pw_below_drewN | apply below_drew1 | refine below_set ?_ GE412.out) | exact HB.out)) hb); clear HO_9; clear HO_11; clear HO444; clear HO449; clear BK412; clear HB; have HO_9 := n0_; have HO_11 := n1_; have HO444 := n2_; have HO449 := n3_; have HO452 := n4_; have BK412 := n5_; have HB := n6_; clear n0_ n1_ n2_ n3_ n4_ n5_ n6_; clear hb ho59; obtain ⟨Ao60, co60, eo60⟩ := Kd.R_slice HO449.out; subst eo60; obtain ⟨Ao61, co61, eo61⟩ := Kd.R_slice HO452.out; subst eo61) | (go_at_call 14; (with_reducible refine (sobriquetkeep_Ints.calls kj17 _ _ t445 _ _ y450 t453 _ ?side1 ?side2 ?side3 ?side4 A56.out).mono ?_); (case side1 => repeat (first | exact (Kd.R_reads' HO449.out).2.2 | (with_reducible refine Kd.C_alloc ?_ _) | (with_reducible refine Kd.C_drewN ?_ _) | (with_reducible refine Kd.C_drew ?_))); (case side2 => exact (Kd.R_reads' HO449.out).2.1); (case side3 => repeat (first | exact (Kd.R_reads' HO452.out).2.2 | (with_reducible refine Kd.C_alloc ?_ _) | (with_reducible refine Kd.C_drewN ?_ _) | (with_reducible refine Kd.C_drew ?_))); (case side4 => exact (Kd.R_reads' HO452.out).2.1); rintro e w' ⟨rfl, ⟨nd, rfl⟩⟩))
    go_meet
    case rel => exact ⟨_, (!t453), (by first | rfl | (simp; done) | (simp [*]; done)), H', ⟨by have := HJ17.out; first | omega | exact Nat.le_refl _⟩, ⟨by (with_reducible repeat (first | apply Kd.R_alloc | apply Kd.R_drewN | apply Kd.R_drew)); exact Kd.R_mono HO_9.out (fun _ hk => trivial)⟩, ⟨by (with_reducible repeat (first | refine blk_drewN ?_ _ | refine blk_drew ?_ | refine blk_alloc ?_ _)); exact BK412.out⟩, ⟨by repeat (first | (with_reducible first | exact HB.out | apply below_alloc | apply pw_below_drewN | apply below_drew1 | refine below_set ?_ GE412.out) | exact HB.out)⟩⟩
   case rest =>
    clear HC48
    try clear c1
    try clear p2
    try clear c4
    try clear p4
    try clear q4
    try clear hx4
    try clear c5
    try clear c5b0
    try clear c5b1
    try clear c5b2
    try clear c6
    try clear p6
    try clear c8
    try clear c8b0
    try clear c8b1
    try clear c10
    try clear c10b0
    try clear c11
    try clear c11b0
    try clear c13
    try clear c14
    try clear c14b0
    try clear c15
    try clear c15b0
    try clear c16
    try clear c17
    try clear c18
    try clear c19
    try clear c41
    try clear p41
    try clear q41
    try clear hx41
    try clear c42
    try clear p42
    try clear q42
    try clear hx42
    try clear c46
    try clear c55
    try clear c55b0
    try clear c55b1
    try clear hcz22_0
    try clear hcz22_1
    try clear hcz22_2
    try clear hcz37_0
    try clear hcz37_1
    try clear hcz37_2
    try clear hcz40_0
    try clear hcz40_1
    try clear hcz40_2
    try clear hcz42_0
    try clear hcz42_1
    try clear hcz42_2
    try clear hcz57_0
    try clear hcz57_1
    try clear hcz57_2
    try clear hfz22_0
    try clear hfz22_1
    try clear hfz22_2
    try clear hfz37_0
    try clear hfz37_1
    try clear hfz37_2
    try clear hfz40_0
    try clear hfz40_1
    try clear hfz40_2
    try clear hfz42_0
    try clear hfz42_1
    try clear hfz42_2
    try clear hfz57_0
    try clear hfz57_1
    try clear hfz57_2
    try clear hx411_0
    try clear hx411_1
    try clear hx411_2
    try clear hx428_0
    try clear p2
    try clear p4
    try clear p41
    try clear p411
    try clear p42
    try clear p428
    try clear p6
    try clear q4
    try clear q41
    try clear q411
    try clear q42
    try clear q428
    obtain ⟨kq, x85_47, rfl, HA, HJ47, HO_9, BK412, HB⟩ := hcut
    cases kq with
    | zero => exact absurd HA.out (by simp [sobriquetlaw18_TeletexPlaces.j1])
    | succ kj47 =>
     have H := HA.out
     clear HA
     simp only [sobriquetlaw18_TeletexPlaces.j1] at H
     by_cases c62 : x85_47 = true
     ·subst c62
      have H1 : (some false) = some r := by rw [if_pos rfl] at H; exact H
      clear H
      have H := H1
      clear H1
      obtain rfl := Option.some.inj H
      go_wp2
      go_ret
      exact ⟨by first | rfl | (simp [errW_none, errW_some] <;> rfl) | (simp only [← hji9, ← hji13]; first | rfl | (simp [errW_none, errW_some] <;> rfl)) | (simp [*, errW_none, errW_some] <;> rfl), by repeat (first | (with_reducible first | exact HB.out | apply below_alloc | apply pw_below_drewN | apply below_drew1 | refine below_set ?_ GE412.out) | exact HB.out)⟩
     replace c62 := Bool.eq_false_iff.mpr c62
     subst c62
     have H1 : ((csets_Wide.f ((rd_T38 t408 (ji9)).f0)).bind fun t454 => (if t454 = true then (sobriquetlaw18_TeletexPlaces.j2 kj47 (wrap64 (33 + (wrap64 (Int.tmod (IntKind.u64.wrap (a2)) 94)))) y429 true ((rd_T38 t408 (ji9)).f0) ((rd_T38 t408 (ji9)).f1) ((rd_T38 t408 (ji9)).f2)) else (sobriquetlaw18_TeletexPlaces.j2 kj47 (wrap64 (33 + (wrap64 (Int.tmod (IntKind.u64.wrap (a2)) 94)))) y429 (((rd_T38 t408 (ji9)).f0) == 103) ((rd_T38 t408 (ji9)).f0) ((rd_T38 t408 (ji9)).f1) ((rd_T38 t408 (ji9)).f2)))) = some r := by rw [if_neg (show ¬ (false = true) by decide)] at H; exact H
     clear H
     have H := H1
     clear H1
     have HC63 := Aside0.mk H
     clear H
     go_upto_region 16 with (fail)
     go_cut [98] (fun v98 wc => ∃ (kq : Nat) (x98_62 : Bool), v98 = .bool x98_62 ∧ Aside0 (sobriquetlaw18_TeletexPlaces.j2 kq (wrap64 (33 + (wrap64 (Int.tmod (IntKind.u64.wrap (a2)) 94)))) y429 x98_62 ((rd_T38 t408 (ji9)).f0) ((rd_T38 t408 (ji9)).f1) ((rd_T38 t408 (ji9)).f2) = some r) ∧ Aside0 (kq ≤ kj47) ∧ Aside0 (Kd.R (Kd.int .u8) 5 wc w.heap.size (fun _ => True) (.slice Ao49 y429.length co49) y429) ∧ Aside0 (wc.heap[gb412]? = some (.cells #[.int .i64 ((rd_T38 t408 (ji9)).f0), .int .i64 ((rd_T38 t408 (ji9)).f1), .int .i64 ((rd_T38 t408 (ji9)).f2)] 38 (0, 0))) ∧ Aside0 (Below w.heap.size w wc))
     case first =>
      have H := HC63.out
      clear HC63
      replace H := Option.bind_eq_some_iff.mp H
      obtain ⟨t454, A640, H⟩ := H
      replace H : (if t454 = true then (sobriquetlaw18_TeletexPlaces.j2 kj47 (wrap64 (33 + (wrap64 (Int.tmod (IntKind.u64.wrap (a2)) 94)))) y429 true ((rd_T38 t408 (ji9)).f0) ((rd_T38 t408 (ji9)).f1) ((rd_T38 t408 (ji9)).f2)) else (sobriquetlaw18_TeletexPlaces.j2 kj47 (wrap64 (33 + (wrap64 (Int.tmod (IntKind.u64.wrap (a2)) 94)))) y429 (((rd_T38 t408 (ji9)).f0) == 103) ((rd_T38 t408 (ji9)).f0) ((rd_T38 t408 (ji9)).f1) ((rd_T38 t408 (ji9)).f2))) = some r := H
      have A64 := Aside0.mk A640
      clear A640
      by_cases c65 : t454 = true
      ·subst c65
       have H1 : (sobriquetlaw18_TeletexPlaces.j2 kj47 (wrap64 (33 + (wrap64 (Int.tmod (IntKind.u64.wrap (a2)) 94)))) y429 true ((rd_T38 t408 (ji9)).f0) ((rd_T38 t408 (ji9)).f1) ((rd_T38 t408 (ji9)).f2)) = some r := by rw [if_pos rfl] at H; exact H
       clear H
       have H := H1
       clear H1
       have H' := Aside0.mk H
       clear H
       have hcz66_0 : wc.cell? ⟨gb412, 0, none⟩ = some (.int .i64 ((rd_T38 t408 (ji9)).f0)) := (blk_cell BK412.out 0).trans rfl
       have hcz66_1 : wc.cell? ⟨gb412, 1, none⟩ = some (.int .i64 ((rd_T38 t408 (ji9)).f1)) := (blk_cell BK412.out 1).trans rfl
       have hcz66_2 : wc.cell? ⟨gb412, 2, none⟩ = some (.int .i64 ((rd_T38 t408 (ji9)).f2)) := (blk_cell BK412.out 2).trans rfl
       have hfz66_0 := blk_frozen BK412.out 0
       have hfz66_1 := blk_frozen BK412.out 1
       have hfz66_2 := blk_frozen BK412.out 2
       go_wp2_with (first | ((with_reducible refine gate_callee (f := 18) rfl ?_); refine goesL_ (some 93) rfl rfl Try.func18 (by kernel_rfl) rfl #[.int .i64 ((rd_T38 t408 (ji9)).f0)] rfl (by (try simp only [List.map_toArray, List.map_cons, List.map_nil]); first | done | (simp only [hji9]; rfl) | rfl | (simp only [List.length_drop, List.length_take]; rfl)) ?_; (with_reducible refine (csets_Wide.calls ((rd_T38 t408 (ji9)).f0) true _ A64.out).mono ?_); rintro e w' ⟨rfl, ⟨nd, rfl⟩⟩; refine ⟨_, rfl, ?_⟩))
       go_meet
       case rel => exact ⟨_, (true), (by first | rfl | (simp; done) | (simp [*]; done)), H', ⟨by have := HJ17.out; have := HJ47.out; first | omega | exact Nat.le_refl _⟩, ⟨by (with_reducible repeat (first | apply Kd.R_alloc | apply Kd.R_drewN | apply Kd.R_drew)); exact HO_9.out⟩, ⟨by (with_reducible repeat (first | refine blk_drewN ?_ _ | refine blk_drew ?_ | refine blk_alloc ?_ _)); exact BK412.out⟩, ⟨by repeat (first | (with_reducible first | exact HB.out | apply below_alloc | apply pw_below_drewN | apply below_drew1 | refine below_set ?_ GE412.out) | exact HB.out)⟩⟩
      replace c65 := Bool.eq_false_iff.mpr c65
      subst c65
      have H1 : (sobriquetlaw18_TeletexPlaces.j2 kj47 (wrap64 (33 + (wrap64 (Int.tmod (IntKind.u64.wrap (a2)) 94)))) y429 (((rd_T38 t408 (ji9)).f0) == 103) ((rd_T38 t408 (ji9)).f0) ((rd_T38 t408 (ji9)).f1) ((rd_T38 t408 (ji9)).f2)) = some r := by rw [if_neg (show ¬ (false = true) by decide)] at H; exact H
      clear H
      have H := H1
      clear H1
      have H' := Aside0.mk H
      clear H
      have hcz67_0 : wc.cell? ⟨gb412, 0, none⟩ = some (.int .i64 ((rd_T38 t408 (ji9)).f0)) := (blk_cell BK412.out 0).trans rfl
      have hcz67_1 : wc.cell? ⟨gb412, 1, none⟩ = some (.int .i64 ((rd_T38 t408 (ji9)).f1)) := (blk_cell BK412.out 1).trans rfl
      have hcz67_2 : wc.cell? ⟨gb412, 2, none⟩ = some (.int .i64 ((rd_T38 t408 (ji9)).f2)) := (blk_cell BK412.out 2).trans rfl
      have hfz67_0 := blk_frozen BK412.out 0
      have hfz67_1 := blk_frozen BK412.out 1
      have hfz67_2 := blk_frozen BK412.out 2
      go_wp2_with (first | ((with_reducible refine gate_callee (f := 18) rfl ?_); refine goesL_ (some 93) rfl rfl Try.func18 (by kernel_rfl) rfl #[.int .i64 ((rd_T38 t408 (ji9)).f0)] rfl (by (try simp only [List.map_toArray, List.map_cons, List.map_nil]); first | done | (simp only [hji9]; rfl) | rfl | (simp only [List.length_drop, List.length_take]; rfl)) ?_; (with_reducible refine (csets_Wide.calls ((rd_T38 t408 (ji9)).f0) false _ A64.out).mono ?_); rintro e w' ⟨rfl, ⟨nd, rfl⟩⟩; refine ⟨_, rfl, ?_⟩))
      go_meet
      case rel => exact ⟨_, ((((rd_T38 t408 (ji9)).f0) == 103)), (by first | rfl | (simp; done) | (simp only [← hji9] <;> (first | rfl | simp)) | (simp [*]; done)), H', ⟨by have := HJ17.out; have := HJ47.out; first | omega | exact Nat.le_refl _⟩, ⟨by (with_reducible repeat (first | apply Kd.R_alloc | apply Kd.R_drewN | apply Kd.R_drew)); exact HO_9.out⟩, ⟨by (with_reducible repeat (first | refine blk_drewN ?_ _ | refine blk_drew ?_ | refine blk_alloc ?_ _)); exact BK412.out⟩, ⟨by repeat (first | (with_reducible first | exact HB.out | apply below_alloc | apply pw_below_drewN | apply below_drew1 | refine below_set ?_ GE412.out) | exact HB.out)⟩⟩
     case rest =>
      clear HC63
      try clear c1
      try clear p2
      try clear c4
      try clear p4
      try clear q4
      try clear hx4
      try clear c5
      try clear c5b0
      try clear c5b1
      try clear c5b2
      try clear c6
      try clear p6
      try clear c8
      try clear c8b0
      try clear c8b1
      try clear c10
      try clear c10b0
      try clear c11
      try clear c11b0
      try clear c13
      try clear c14
      try clear c14b0
      try clear c15
      try clear c15b0
      try clear c16
      try clear c17
      try clear c18
      try clear c19
      try clear c41
      try clear p41
      try clear q41
      try clear hx41
      try clear c42
      try clear p42
      try clear q42
      try clear hx42
      try clear c46
      try clear c55
      try clear c55b0
      try clear c55b1
      try clear c62
      try clear p64
      try clear c65
      try clear hcz22_0
      try clear hcz22_1
      try clear hcz22_2
      try clear hcz37_0
      try clear hcz37_1
      try clear hcz37_2
      try clear hcz40_0
      try clear hcz40_1
      try clear hcz40_2
      try clear hcz42_0
      try clear hcz42_1
      try clear hcz42_2
      try clear hcz57_0
      try clear hcz57_1
      try clear hcz57_2
      try clear hcz66_0
      try clear hcz66_1
      try clear hcz66_2
      try clear hcz67_0
      try clear hcz67_1
      try clear hcz67_2
      try clear hfz22_0
      try clear hfz22_1
      try clear hfz22_2
      try clear hfz37_0
      try clear hfz37_1
      try clear hfz37_2
      try clear hfz40_0
      try clear hfz40_1
      try clear hfz40_2
      try clear hfz42_0
      try clear hfz42_1
      try clear hfz42_2
      try clear hfz57_0
      try clear hfz57_1
      try clear hfz57_2
      try clear hfz66_0
      try clear hfz66_1
      try clear hfz66_2
      try clear hfz67_0
      try clear hfz67_1
      try clear hfz67_2
      try clear hx411_0
      try clear hx411_1
      try clear hx411_2
      try clear hx428_0
      try clear p2
      try clear p4
      try clear p41
      try clear p411
      try clear p42
      try clear p428
      try clear p6
      try clear q4
      try clear q41
      try clear q411
      try clear q42
      try clear q428
      obtain ⟨kq, x98_62, rfl, HA, HJ62, HO_9, BK412, HB⟩ := hcut
      cases kq with
      | zero => exact absurd HA.out (by simp [sobriquetlaw18_TeletexPlaces.j2])
      | succ kj62 =>
       have H := HA.out
       clear HA
       simp only [sobriquetlaw18_TeletexPlaces.j2] at H
       by_cases c68 : x98_62 = true
       ·subst c68
        have H1 : ((sobriquetlaw18_wakes.f).bind fun t455 => (some t455)) = some r := by rw [if_pos rfl] at H; exact H
        clear H
        have H := H1
        clear H1
        replace H := Option.bind_eq_some_iff.mp H
        obtain ⟨t455, A690, H⟩ := H
        replace H : (some t455) = some r := H
        have A69 := Aside0.mk A690
        clear A690
        obtain rfl := Option.some.inj H
        go_wp2_with (first | ((with_reducible refine gate_callee (f := 12) rfl ?_); refine goesL_ (some 99) rfl rfl Try.func12 (by kernel_rfl) rfl #[] rfl (by (try simp only [List.map_toArray, List.map_cons, List.map_nil]); first | done | rfl | (simp only [List.length_drop, List.length_take]; rfl)) ?_; (with_reducible refine (sobriquetlaw18_wakes.calls  t455 _ A69.out).mono ?_); rintro e w70 ⟨rfl, hb⟩; refine ⟨_, rfl, ?_⟩; have n0_ := Aside0.mk (Kd.R_below (by (with_reducible repeat (first | apply Kd.R_alloc | apply Kd.R_drewN | apply Kd.R_drew)); exact HO_9.out) hb); have n1_ := Aside0.mk (blk_below (g := gb412) (o := .cells #[.int .i64 ((rd_T38 t408 (ji9)).f0), .int .i64 ((rd_T38 t408 (ji9)).f1), .int .i64 ((rd_T38 t408 (ji9)).f2)] 38 (0, 0)) (by (with_reducible repeat (first | refine blk_drewN ?_ _ | refine blk_drew ?_ | refine blk_alloc ?_ _)); exact BK412.out) hb); have n2_ := Aside0.mk (below_step (by repeat (first | (with_reducible first | exact HB.out | apply below_alloc | apply pw_below_drewN | apply below_drew1 | refine below_set ?_ GE412.out) | exact HB.out)) hb); clear HO_9; clear BK412; clear HB; have HO_9 := n0_; have BK412 := n1_; have HB := n2_; clear n0_ n1_ n2_; (try clear hb); (try clear hb2); (try clear hk); (try clear hi)))
        go_ret
        exact ⟨by first | rfl | (simp [errW_none, errW_some] <;> rfl) | (simp only [← hji9, ← hji13]; first | rfl | (simp [errW_none, errW_some] <;> rfl)) | (simp [*, errW_none, errW_some] <;> rfl), by repeat (first | (with_reducible first | exact HB.out | apply below_alloc | apply pw_below_drewN | apply below_drew1 | refine below_set ?_ GE412.out) | exact HB.out)⟩
       replace c68 := Bool.eq_false_iff.mpr c68
       subst c68
       have H1 : ((csets_Get.f kj62 ((rd_T38 t408 (ji9)).f0) (wrap64 (33 + (wrap64 (Int.tmod (IntKind.u64.wrap (a2)) 94))))).bind fun bt456 => (if bt456.2 = true then ((sobriquetlaw18_wakes.f).bind fun t458 => (some t458)) else (if y429.length < 140737488355328 then ((teletex_Read.f kj62 (y429 ++ [((wrap64 (33 + (wrap64 (Int.tmod (IntKind.u64.wrap (a2)) 94))))) % 256])).bind fun bt462 => (if bt462.2.2 = 13 then ((sobriquetlaw18_wakes.f).bind fun t467 => (some t467)) else (some false))) else (none)))) = some r := by rw [if_neg (show ¬ (false = true) by decide)] at H; exact H
       clear H
       have H := H1
       clear H1
       replace H := Option.bind_eq_some_iff.mp H
       obtain ⟨⟨t456, t457⟩, A710, H⟩ := H
       replace H : (if t457 = true then ((sobriquetlaw18_wakes.f).bind fun t458 => (some t458)) else (if y429.length < 140737488355328 then ((teletex_Read.f kj62 (y429 ++ [((wrap64 (33 + (wrap64 (Int.tmod (IntKind.u64.wrap (a2)) 94))))) % 256])).bind fun bt462 => (if bt462.2.2 = 13 then ((sobriquetlaw18_wakes.f).bind fun t467 => (some t467)) else (some false))) else (none))) = some r := H
       have A71 := Aside0.mk A710
       clear A710
       by_cases c72 : t457 = true
       ·subst c72
        have H1 : ((sobriquetlaw18_wakes.f).bind fun t458 => (some t458)) = some r := by rw [if_pos rfl] at H; exact H
        clear H
        have H := H1
        clear H1
        replace H := Option.bind_eq_some_iff.mp H
        obtain ⟨t458, A730, H⟩ := H
        replace H : (some t458) = some r := H
        have A73 := Aside0.mk A730
        clear A730
        obtain rfl := Option.some.inj H
        have hcz74_0 : wc.cell? ⟨gb412, 0, none⟩ = some (.int .i64 ((rd_T38 t408 (ji9)).f0)) := (blk_cell BK412.out 0).trans rfl
        have hcz74_1 : wc.cell? ⟨gb412, 1, none⟩ = some (.int .i64 ((rd_T38 t408 (ji9)).f1)) := (blk_cell BK412.out 1).trans rfl
        have hcz74_2 : wc.cell? ⟨gb412, 2, none⟩ = some (.int .i64 ((rd_T38 t408 (ji9)).f2)) := (blk_cell BK412.out 2).trans rfl
        have hfz74_0 := blk_frozen BK412.out 0
        have hfz74_1 := blk_frozen BK412.out 1
        have hfz74_2 := blk_frozen BK412.out 2
        go_wp2_with (first | ((with_reducible refine gate_callee (f := 20) rfl ?_); refine goesL_ (some 104) rfl rfl Try.func20 (by kernel_rfl) rfl #[.int .i64 ((rd_T38 t408 (ji9)).f0), .int .i64 (wrap64 (33 + (wrap64 (Int.tmod (IntKind.u64.wrap (a2)) 94))))] rfl (by (try simp only [List.map_toArray, List.map_cons, List.map_nil]); first | done | (simp only [hji9]; rfl) | rfl | (simp only [List.length_drop, List.length_take]; rfl)) ?_; (with_reducible refine (csets_Get.calls kj62 ((rd_T38 t408 (ji9)).f0) (wrap64 (33 + (wrap64 (Int.tmod (IntKind.u64.wrap (a2)) 94)))) t456 true _ A71.out).mono ?_); rintro e w75 ⟨rfl, hb⟩; refine ⟨_, rfl, ?_⟩; have n0_ := Aside0.mk (Kd.R_below (by (with_reducible repeat (first | apply Kd.R_alloc | apply Kd.R_drewN | apply Kd.R_drew)); exact HO_9.out) hb); have n1_ := Aside0.mk (blk_below (g := gb412) (o := .cells #[.int .i64 ((rd_T38 t408 (ji9)).f0), .int .i64 ((rd_T38 t408 (ji9)).f1), .int .i64 ((rd_T38 t408 (ji9)).f2)] 38 (0, 0)) (by (with_reducible repeat (first | refine blk_drewN ?_ _ | refine blk_drew ?_ | refine blk_alloc ?_ _)); exact BK412.out) hb); have n2_ := Aside0.mk (below_step (by repeat (first | (with_reducible first | exact HB.out | apply below_alloc | apply pw_below_drewN | apply below_drew1 | refine below_set ?_ GE412.out) | exact HB.out)) hb); clear HO_9; clear BK412; clear HB; have HO_9 := n0_; have BK412 := n1_; have HB := n2_; clear n0_ n1_ n2_; (try clear hb); (try clear hb2); (try clear hk); (try clear hi)) | ((with_reducible refine gate_callee (f := 12) rfl ?_); refine goesL_ (some 108) rfl rfl Try.func12 (by kernel_rfl) rfl #[] rfl (by (try simp only [List.map_toArray, List.map_cons, List.map_nil]); first | done | rfl | (simp only [List.length_drop, List.length_take]; rfl)) ?_; (with_reducible refine (sobriquetlaw18_wakes.calls  t458 _ A73.out).mono ?_); rintro e w76 ⟨rfl, hb⟩; refine ⟨_, rfl, ?_⟩; have n0_ := Aside0.mk (Kd.R_below (by (with_reducible repeat (first | apply Kd.R_alloc | apply Kd.R_drewN | apply Kd.R_drew)); exact HO_9.out) hb); have n1_ := Aside0.mk (blk_below (g := gb412) (o := .cells #[.int .i64 ((rd_T38 t408 (ji9)).f0), .int .i64 ((rd_T38 t408 (ji9)).f1), .int .i64 ((rd_T38 t408 (ji9)).f2)] 38 (0, 0)) (by (with_reducible repeat (first | refine blk_drewN ?_ _ | refine blk_drew ?_ | refine blk_alloc ?_ _)); exact BK412.out) hb); have n2_ := Aside0.mk (below_step (by repeat (first | (with_reducible first | exact HB.out | apply below_alloc | apply pw_below_drewN | apply below_drew1 | refine below_set ?_ GE412.out) | exact HB.out)) hb); clear HO_9; clear BK412; clear HB; have HO_9 := n0_; have BK412 := n1_; have HB := n2_; clear n0_ n1_ n2_; (try clear hb); (try clear hb2); (try clear hk); (try clear hi)))
        go_ret
        exact ⟨by first | rfl | (simp [errW_none, errW_some] <;> rfl) | (simp only [← hji9, ← hji13]; first | rfl | (simp [errW_none, errW_some] <;> rfl)) | (simp [*, errW_none, errW_some] <;> rfl), by repeat (first | (with_reducible first | exact HB.out | apply below_alloc | apply pw_below_drewN | apply below_drew1 | refine below_set ?_ GE412.out) | exact HB.out)⟩
       replace c72 := Bool.eq_false_iff.mpr c72
       subst c72
       have H1 : (if y429.length < 140737488355328 then ((teletex_Read.f kj62 (y429 ++ [((wrap64 (33 + (wrap64 (Int.tmod (IntKind.u64.wrap (a2)) 94))))) % 256])).bind fun bt462 => (if bt462.2.2 = 13 then ((sobriquetlaw18_wakes.f).bind fun t467 => (some t467)) else (some false))) else (none)) = some r := by rw [if_neg (show ¬ (false = true) by decide)] at H; exact H
       clear H
       have H := H1
       clear H1
       by_cases c77 : y429.length < 140737488355328
       rotate_left
       ·rw [if_neg c77] at H
        exact absurd H (by simp)
       rw [if_pos c77] at H
       have LMc77 := Aside0.mk c77
       clear c77
       obtain ⟨y459, hy459⟩ : ∃ y_ : List Int, y_ = (y429 ++ [((wrap64 (33 + (wrap64 (Int.tmod (IntKind.u64.wrap (a2)) 94))))) % 256]) := ⟨_, rfl⟩
       replace H : ((teletex_Read.f kj62 y459).bind fun bt462 => (if bt462.2.2 = 13 then ((sobriquetlaw18_wakes.f).bind fun t467 => (some t467)) else (some false))) = some r := by first | (rw [hy459]; with_reducible exact H) | (have H2_ := (Option.bind_some _ _).symm.trans H; rw [hy459]; with_reducible exact H2_) | (have H2_ := (Option.bind_some _ _).symm.trans H; with_reducible exact H2_) | with_reducible exact H | (rw [hy459]; exact H) | exact H
       have Ny459 := Aside0.mk hy459
       clear hy459
       replace H := Option.bind_eq_some_iff.mp H
       obtain ⟨⟨t462, t463, t464⟩, A780, H⟩ := H
       replace H : (if t464 = 13 then ((sobriquetlaw18_wakes.f).bind fun t467 => (some t467)) else (some false)) = some r := H
       have A78 := Aside0.mk A780
       clear A780
       by_cases c79 : t464 = 13
       rotate_left
       ·rw [if_neg c79] at H
        have c79b0 : (t464 == 13) = false := beq_eq_false_iff_ne.mpr c79
        have c79b1 : (t464 != 13) = true := bne_iff_ne.mpr c79
        obtain rfl := Option.some.inj H
        have hcz87_0 : wc.cell? ⟨gb412, 0, none⟩ = some (.int .i64 ((rd_T38 t408 (ji9)).f0)) := (blk_cell BK412.out 0).trans rfl
        have hcz87_1 : wc.cell? ⟨gb412, 1, none⟩ = some (.int .i64 ((rd_T38 t408 (ji9)).f1)) := (blk_cell BK412.out 1).trans rfl
        have hcz87_2 : wc.cell? ⟨gb412, 2, none⟩ = some (.int .i64 ((rd_T38 t408 (ji9)).f2)) := (blk_cell BK412.out 2).trans rfl
        have hfz87_0 := blk_frozen BK412.out 0
        have hfz87_1 := blk_frozen BK412.out 1
        have hfz87_2 := blk_frozen BK412.out 2
        go_wp2_with (first | ((with_reducible refine gate_callee (f := 20) rfl ?_); refine goesL_ (some 104) rfl rfl Try.func20 (by kernel_rfl) rfl #[.int .i64 ((rd_T38 t408 (ji9)).f0), .int .i64 (wrap64 (33 + (wrap64 (Int.tmod (IntKind.u64.wrap (a2)) 94))))] rfl (by (try simp only [List.map_toArray, List.map_cons, List.map_nil]); first | done | (simp only [hji9]; rfl) | rfl | (simp only [List.length_drop, List.length_take]; rfl)) ?_; (with_reducible refine (csets_Get.calls kj62 ((rd_T38 t408 (ji9)).f0) (wrap64 (33 + (wrap64 (Int.tmod (IntKind.u64.wrap (a2)) 94)))) t456 false _ A71.out).mono ?_); rintro e w88 ⟨rfl, hb⟩; refine ⟨_, rfl, ?_⟩; have n0_ := Aside0.mk (Kd.R_below (by (with_reducible repeat (first | apply Kd.R_alloc | apply Kd.R_drewN | apply Kd.R_drew)); exact HO_9.out) hb); have n1_ := Aside0.mk (blk_below (g := gb412) (o := .cells #[.int .i64 ((rd_T38 t408 (ji9)).f0), .int .i64 ((rd_T38 t408 (ji9)).f1), .int .i64 ((rd_T38 t408 (ji9)).f2)] 38 (0, 0)) (by (with_reducible repeat (first | refine blk_drewN ?_ _ | refine blk_drew ?_ | refine blk_alloc ?_ _)); exact BK412.out) hb); have n2_ := Aside0.mk (below_step (by repeat (first | (with_reducible first | exact HB.out | apply below_alloc | apply pw_below_drewN | apply below_drew1 | refine below_set ?_ GE412.out) | exact HB.out)) hb); clear HO_9; clear BK412; clear HB; have HO_9 := n0_; have BK412 := n1_; have HB := n2_; clear n0_ n1_ n2_; (try clear hb); (try clear hb2); (try clear hk); (try clear hi)) | ((with_reducible refine gate_builtin (b := .append) (xs := #[.tmp 110, .tmp 113]) rfl ?_); (try (refine gate_guard (by rfl) ?_; dsimp only)); at_builtin; refine Kd.R_append (Kd.int .u8) (w0 := w) w.heap.size rfl (.tmp 110) (.tmp 113) 23 5 (.int .u8 0) 1 rfl Try.underlying23 info5 rfl (by decide) (by omega) (.slice Ao49 y429.length co49) y429 (((wrap64 (33 + (wrap64 (Int.tmod (IntKind.u64.wrap (a2)) 94))))) % 256) [.int .u8 (((wrap64 (33 + (wrap64 (Int.tmod (IntKind.u64.wrap (a2)) 94))))) % 256)] (fun _ => True) (fun _ => False) rfl rfl ?aP (fun _ hk => hk.elim) ?aF ?aO ?aB ?aS ?aL ?_; (case aP => exact rfl); (case aB => exact (by repeat (first | (with_reducible first | exact HB.out | apply below_alloc | apply pw_below_drewN | apply below_drew1 | refine below_set ?_ GE412.out) | exact HB.out))); (case aF => exact (fun _ _ => trivial)); (case aO => exact (by (with_reducible repeat (first | apply Kd.R_alloc | apply Kd.R_drewN | apply Kd.R_drew)); exact HO_9.out)); (case aS => exact (below_size (by repeat (first | (with_reducible first | exact HB.out | apply below_alloc | apply pw_below_drewN | apply below_drew1 | refine below_set ?_ GE412.out) | exact HB.out)))); (case aL => have := LMc77.out; omega); intro v460 w89 ho hb hg hat; rw [← Ny459.out] at ho; have n0_ := Aside0.mk (blk_grown (g := gb412) (o := .cells #[.int .i64 ((rd_T38 t408 (ji9)).f0), .int .i64 ((rd_T38 t408 (ji9)).f1), .int .i64 ((rd_T38 t408 (ji9)).f2)] 38 (0, 0)) (by (with_reducible repeat (first | refine blk_drewN ?_ _ | refine blk_drew ?_ | refine blk_alloc ?_ _)); exact BK412.out) hg (Kd.R_ne HO_9.out BK412.out (by decide))); have n1_ := Aside0.mk (hb); have n2_ := Aside0.mk (ho); clear BK412; clear HB; clear HO_9; have BK412 := n0_; have HB := n1_; have HO461 := n2_; clear n0_ n1_ n2_; clear ho hb hg hat; obtain ⟨Ao90, co90, eo90⟩ := Kd.R_slice HO461.out; subst eo90) | ((with_reducible refine gate_callee (f := 13) rfl ?_); refine goesL_ (some 115) rfl rfl Try.func13 (by kernel_rfl) rfl #[.slice Ao90 y459.length co90] rfl (by (try simp only [List.map_toArray, List.map_cons, List.map_nil]); first | done | rfl | (simp only [List.length_drop, List.length_take]; rfl)) ?_; (with_reducible refine (teletex_Read.calls kj62 _ _ y459 t462 t463 t464 _ ?side1 ?side2 A78.out).mono ?_); (case side1 => repeat (first | exact (Kd.R_reads' HO461.out).2.2 | (with_reducible refine Kd.C_alloc ?_ _) | (with_reducible refine Kd.C_drewN ?_ _) | (with_reducible refine Kd.C_drew ?_))); (case side2 => exact (Kd.R_reads' HO461.out).2.1); rintro e w91 ⟨v465, rfl, ho0, hb⟩; refine ⟨_, rfl, ?_⟩; have n0_ := Aside0.mk (Kd.R_below (by (with_reducible repeat (first | apply Kd.R_alloc | apply Kd.R_drewN | apply Kd.R_drew)); exact HO461.out) hb); have n1_ := Aside0.mk (Kd.R_lower ho0 (below_size (by repeat (first | (with_reducible first | exact HB.out | apply below_alloc | apply pw_below_drewN | apply below_drew1 | refine below_set ?_ GE412.out) | exact HB.out)))); have n2_ := Aside0.mk (blk_below (g := gb412) (o := .cells #[.int .i64 ((rd_T38 t408 (ji9)).f0), .int .i64 ((rd_T38 t408 (ji9)).f1), .int .i64 ((rd_T38 t408 (ji9)).f2)] 38 (0, 0)) (by (with_reducible repeat (first | refine blk_drewN ?_ _ | refine blk_drew ?_ | refine blk_alloc ?_ _)); exact BK412.out) hb); have n3_ := Aside0.mk (below_step (by repeat (first | (with_reducible first | exact HB.out | apply below_alloc | apply pw_below_drewN | apply below_drew1 | refine below_set ?_ GE412.out) | exact HB.out)) hb); clear HO461; clear BK412; clear HB; have HO461 := n0_; have HO466 := n1_; have BK412 := n2_; have HB := n3_; clear n0_ n1_ n2_ n3_; (try clear hb); (try clear hb2); (try clear hk); (try clear hi); (try clear ho0)))
        go_ret
        exact ⟨by first | rfl | (simp [errW_none, errW_some] <;> rfl) | (simp only [← hji9, ← hji13]; first | rfl | (simp [errW_none, errW_some] <;> rfl)) | (simp [*, errW_none, errW_some] <;> rfl), by repeat (first | (with_reducible first | exact HB.out | apply below_alloc | apply pw_below_drewN | apply below_drew1 | refine below_set ?_ GE412.out) | exact HB.out)⟩
       rw [if_pos c79] at H
       have c79b0 : (t464 == 13) = true := beq_iff_eq.mpr c79
       have c79b1 : (t464 != 13) = false := bne_eq_false_iff_eq.mpr c79
       clear c79
       replace H := Option.bind_eq_some_iff.mp H
       obtain ⟨t467, A800, H⟩ := H
       replace H : (some t467) = some r := H
       have A80 := Aside0.mk A800
       clear A800
       obtain rfl := Option.some.inj H
       have hcz81_0 : wc.cell? ⟨gb412, 0, none⟩ = some (.int .i64 ((rd_T38 t408 (ji9)).f0)) := (blk_cell BK412.out 0).trans rfl
       have hcz81_1 : wc.cell? ⟨gb412, 1, none⟩ = some (.int .i64 ((rd_T38 t408 (ji9)).f1)) := (blk_cell BK412.out 1).trans rfl
       have hcz81_2 : wc.cell? ⟨gb412, 2, none⟩ = some (.int .i64 ((rd_T38 t408 (ji9)).f2)) := (blk_cell BK412.out 2).trans rfl
       have hfz81_0 := blk_frozen BK412.out 0
       have hfz81_1 := blk_frozen BK412.out 1
       have hfz81_2 := blk_frozen BK412.out 2
       go_wp2_with (first | ((with_reducible refine gate_callee (f := 20) rfl ?_); refine goesL_ (some 104) rfl rfl Try.func20 (by kernel_rfl) rfl #[.int .i64 ((rd_T38 t408 (ji9)).f0), .int .i64 (wrap64 (33 + (wrap64 (Int.tmod (IntKind.u64.wrap (a2)) 94))))] rfl (by (try simp only [List.map_toArray, List.map_cons, List.map_nil]); first | done | (simp only [hji9]; rfl) | rfl | (simp only [List.length_drop, List.length_take]; rfl)) ?_; (with_reducible refine (csets_Get.calls kj62 ((rd_T38 t408 (ji9)).f0) (wrap64 (33 + (wrap64 (Int.tmod (IntKind.u64.wrap (a2)) 94)))) t456 false _ A71.out).mono ?_); rintro e w82 ⟨rfl, hb⟩; refine ⟨_, rfl, ?_⟩; have n0_ := Aside0.mk (Kd.R_below (by (with_reducible repeat (first | apply Kd.R_alloc | apply Kd.R_drewN | apply Kd.R_drew)); exact HO_9.out) hb); have n1_ := Aside0.mk (blk_below (g := gb412) (o := .cells #[.int .i64 ((rd_T38 t408 (ji9)).f0), .int .i64 ((rd_T38 t408 (ji9)).f1), .int .i64 ((rd_T38 t408 (ji9)).f2)] 38 (0, 0)) (by (with_reducible repeat (first | refine blk_drewN ?_ _ | refine blk_drew ?_ | refine blk_alloc ?_ _)); exact BK412.out) hb); have n2_ := Aside0.mk (below_step (by repeat (first | (with_reducible first | exact HB.out | apply below_alloc | apply pw_below_drewN | apply below_drew1 | refine below_set ?_ GE412.out) | exact HB.out)) hb); clear HO_9; clear BK412; clear HB; have HO_9 := n0_; have BK412 := n1_; have HB := n2_; clear n0_ n1_ n2_; (try clear hb); (try clear hb2); (try clear hk); (try clear hi)) | ((with_reducible refine gate_builtin (b := .append) (xs := #[.tmp 110, .tmp 113]) rfl ?_); (try (refine gate_guard (by rfl) ?_; dsimp only)); at_builtin; refine Kd.R_append (Kd.int .u8) (w0 := w) w.heap.size rfl (.tmp 110) (.tmp 113) 23 5 (.int .u8 0) 1 rfl Try.underlying23 info5 rfl (by decide) (by omega) (.slice Ao49 y429.length co49) y429 (((wrap64 (33 + (wrap64 (Int.tmod (IntKind.u64.wrap (a2)) 94))))) % 256) [.int .u8 (((wrap64 (33 + (wrap64 (Int.tmod (IntKind.u64.wrap (a2)) 94))))) % 256)] (fun _ => True) (fun _ => False) rfl rfl ?aP (fun _ hk => hk.elim) ?aF ?aO ?aB ?aS ?aL ?_; (case aP => exact rfl); (case aB => exact (by repeat (first | (with_reducible first | exact HB.out | apply below_alloc | apply pw_below_drewN | apply below_drew1 | refine below_set ?_ GE412.out) | exact HB.out))); (case aF => exact (fun _ _ => trivial)); (case aO => exact (by (with_reducible repeat (first | apply Kd.R_alloc | apply Kd.R_drewN | apply Kd.R_drew)); exact HO_9.out)); (case aS => exact (below_size (by repeat (first | (with_reducible first | exact HB.out | apply below_alloc | apply pw_below_drewN | apply below_drew1 | refine below_set ?_ GE412.out) | exact HB.out)))); (case aL => have := LMc77.out; omega); intro v460 w83 ho hb hg hat; rw [← Ny459.out] at ho; have n0_ := Aside0.mk (blk_grown (g := gb412) (o := .cells #[.int .i64 ((rd_T38 t408 (ji9)).f0), .int .i64 ((rd_T38 t408 (ji9)).f1), .int .i64 ((rd_T38 t408 (ji9)).f2)] 38 (0, 0)) (by (with_reducible repeat (first | refine blk_drewN ?_ _ | refine blk_drew ?_ | refine blk_alloc ?_ _)); exact BK412.out) hg (Kd.R_ne HO_9.out BK412.out (by decide))); have n1_ := Aside0.mk (hb); have n2_ := Aside0.mk (ho); clear BK412; clear HB; clear HO_9; have BK412 := n0_; have HB := n1_; have HO461 := n2_; clear n0_ n1_ n2_; clear ho hb hg hat; obtain ⟨Ao84, co84, eo84⟩ := Kd.R_slice HO461.out; subst eo84) | ((with_reducible refine gate_callee (f := 13) rfl ?_); refine goesL_ (some 115) rfl rfl Try.func13 (by kernel_rfl) rfl #[.slice Ao84 y459.length co84] rfl (by (try simp only [List.map_toArray, List.map_cons, List.map_nil]); first | done | rfl | (simp only [List.length_drop, List.length_take]; rfl)) ?_; (with_reducible refine (teletex_Read.calls kj62 _ _ y459 t462 t463 t464 _ ?side1 ?side2 A78.out).mono ?_); (case side1 => repeat (first | exact (Kd.R_reads' HO461.out).2.2 | (with_reducible refine Kd.C_alloc ?_ _) | (with_reducible refine Kd.C_drewN ?_ _) | (with_reducible refine Kd.C_drew ?_))); (case side2 => exact (Kd.R_reads' HO461.out).2.1); rintro e w85 ⟨v465, rfl, ho0, hb⟩; refine ⟨_, rfl, ?_⟩; have n0_ := Aside0.mk (Kd.R_below (by (with_reducible repeat (first | apply Kd.R_alloc | apply Kd.R_drewN | apply Kd.R_drew)); exact HO461.out) hb); have n1_ := Aside0.mk (Kd.R_lower ho0 (below_size (by repeat (first | (with_reducible first | exact HB.out | apply below_alloc | apply pw_below_drewN | apply below_drew1 | refine below_set ?_ GE412.out) | exact HB.out)))); have n2_ := Aside0.mk (blk_below (g := gb412) (o := .cells #[.int .i64 ((rd_T38 t408 (ji9)).f0), .int .i64 ((rd_T38 t408 (ji9)).f1), .int .i64 ((rd_T38 t408 (ji9)).f2)] 38 (0, 0)) (by (with_reducible repeat (first | refine blk_drewN ?_ _ | refine blk_drew ?_ | refine blk_alloc ?_ _)); exact BK412.out) hb); have n3_ := Aside0.mk (below_step (by repeat (first | (with_reducible first | exact HB.out | apply below_alloc | apply pw_below_drewN | apply below_drew1 | refine below_set ?_ GE412.out) | exact HB.out)) hb); clear HO461; clear BK412; clear HB; have HO461 := n0_; have HO466 := n1_; have BK412 := n2_; have HB := n3_; clear n0_ n1_ n2_ n3_; (try clear hb); (try clear hb2); (try clear hk); (try clear hi); (try clear ho0)) | (go_at_call 12; (with_reducible refine (sobriquetlaw18_wakes.calls  t467 _ A80.out).mono ?_); rintro e w86 ⟨rfl, hb⟩; have n0_ := Aside0.mk (Kd.R_below (by (with_reducible repeat (first | apply Kd.R_alloc | apply Kd.R_drewN | apply Kd.R_drew)); exact HO461.out) hb); have n1_ := Aside0.mk (Kd.R_below (by (with_reducible repeat (first | apply Kd.R_alloc | apply Kd.R_drewN | apply Kd.R_drew)); exact HO466.out) hb); have n2_ := Aside0.mk (blk_below (g := gb412) (o := .cells #[.int .i64 ((rd_T38 t408 (ji9)).f0), .int .i64 ((rd_T38 t408 (ji9)).f1), .int .i64 ((rd_T38 t408 (ji9)).f2)] 38 (0, 0)) (by (with_reducible repeat (first | refine blk_drewN ?_ _ | refine blk_drew ?_ | refine blk_alloc ?_ _)); exact BK412.out) hb); have n3_ := Aside0.mk (below_step (by repeat (first | (with_reducible first | exact HB.out | apply below_alloc | apply pw_below_drewN | apply below_drew1 | refine below_set ?_ GE412.out) | exact HB.out)) hb); clear HO461; clear HO466; clear BK412; clear HB; have HO461 := n0_; have HO466 := n1_; have BK412 := n2_; have HB := n3_; clear n0_ n1_ n2_ n3_; (try clear hb); (try clear hb2); (try clear hk); (try clear hi)))
       go_ret
       exact ⟨by first | rfl | (simp [errW_none, errW_some] <;> rfl) | (simp only [← hji9, ← hji13]; first | rfl | (simp [errW_none, errW_some] <;> rfl)) | (simp [*, errW_none, errW_some] <;> rfl), by repeat (first | (with_reducible first | exact HB.out | apply below_alloc | apply pw_below_drewN | apply below_drew1 | refine below_set ?_ GE412.out) | exact HB.out)⟩

/-- THE ONE PURE STATEMENT of sobriquetlaw18_TeletexPlaces: yours. -/
def sobriquetlaw18_TeletexPlaces.Pure : Prop := ∀ (a0 : Int) (a1 : Int) (a2 : Int), (Lit.int .i64 a0).wf = true → (Lit.int .i64 a1).wf = true → (Lit.int .i64 a2).wf = true → ∃ k, sobriquetlaw18_TeletexPlaces.f k a0 a1 a2 = some true
theorem sobriquetlaw18_TeletexPlaces.walk (P : sobriquetlaw18_TeletexPlaces.Pure) (a0 : Int) (a1 : Int) (a2 : Int) (w : World) (w0 : (Lit.int .i64 a0).wf = true) (w1 : (Lit.int .i64 a1).wf = true) (w2 : (Lit.int .i64 a2).wf = true) :
  Calls Try.prog 6 #[.int .i64 a0, .int .i64 a1, .int .i64 a2] w fun e w' => e = .returned (.bool true) ∧ Below w.heap.size w w' := by
 obtain ⟨k, h⟩ := P a0 a1 a2 w0 w1 w2
 refine (sobriquetlaw18_TeletexPlaces.calls k a0 a1 a2 true w h).mono ?_
 rintro e w' ⟨rfl, hd⟩
 exact ⟨rfl, hd⟩

end Go.Proofs.Ytgcdfchchphpjaa.M
