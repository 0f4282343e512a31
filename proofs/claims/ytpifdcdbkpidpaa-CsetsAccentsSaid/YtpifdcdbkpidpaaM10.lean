-- Written by wip/prn.py of this session out of the translation (function by function); Lean checks it.
import Derived.Test.YtpifdcdbkpidpaaM0
import Derived.Test.YtpifdcdbkpidpaaM1
import Derived.Test.YtpifdcdbkpidpaaM2
import Derived.Test.YtpifdcdbkpidpaaM9
import Derived.Test.YtpifdcdbkpidpaaHCodes
import Derived.Test.YtpifdcdbkpidpaaHTab
namespace Go.Proofs.Ytpifdcdbkpidpaa.M
open Go.RowKit Go.Proofs.YtpifdcdbkpidpaaW.PrintWords Go.Proofs.YtpifdcdbkpidpaaW.PrintLast Go.Proofs.YtpifdcdbkpidpaaW.PrintMore
attribute [local go_sem] max2_int min2_int max_two min_two max_three min_three max_four min_four   -- for this text's walks alone
set_option linter.unusedVariables false
set_option linter.unusedSimpArgs false

/-! ### sobriquetlaw16_CsetsPlaces: function 4 -/
def sobriquetlaw16_CsetsPlaces.j0 : Nat → Int → Bool → Bool → Int → Bool → Bool → Bool → Int → Int → Int → Option (Bool)
 | 0, _, _, _, _, _, _, _, _, _, _ => none
 | k + 1, x5, x6, x8, x9, x10, x11, x76, x230000, x230001, x230002 => if x76 = true then (some false) else (if x6 = true then (if x5 = x230002 then (if x8 = true then (if x10 = true then (if x9 = x5 then ((csets_Wide.f x230000).bind fun t236 => (if (t236 == x11) = true then ((ucd_Scalar.f x5).bind fun t237 => (if t237 = true then ((sobriquetlaw16_wakes.f k).bind fun t238 => (some t238)) else (some false))) else (some false))) else (some false)) else (some false)) else (some false)) else (some false)) else (some false))
def sobriquetlaw16_CsetsPlaces.f (k : Nat) (a0 : Int) : Option (Bool) := (api_Codes.f).bind fun t225 => (if (t225.length : Int) = 0 then (some false) else (if (IntKind.u64.wrap ((t225.length : Int))) = 0 then (none) else (if 0 ≤ (wrap64 (Int.tmod (IntKind.u64.wrap (a0)) (IntKind.u64.wrap ((t225.length : Int))))) then (if (wrap64 (Int.tmod (IntKind.u64.wrap (a0)) (IntKind.u64.wrap ((t225.length : Int))))) < (t225.length : Int) then ((csets_Get.f k ((rd_T34 t225 (wrap64 (Int.tmod (IntKind.u64.wrap (a0)) (IntKind.u64.wrap ((t225.length : Int)))))).f0) ((rd_T34 t225 (wrap64 (Int.tmod (IntKind.u64.wrap (a0)) (IntKind.u64.wrap ((t225.length : Int)))))).f1)).bind fun bt230 => ((csets_Find.f k ((rd_T34 t225 (wrap64 (Int.tmod (IntKind.u64.wrap (a0)) (IntKind.u64.wrap ((t225.length : Int)))))).f0) ((rd_T34 t225 (wrap64 (Int.tmod (IntKind.u64.wrap (a0)) (IntKind.u64.wrap ((t225.length : Int)))))).f2)).bind fun bt232 => ((csets_Get.f k ((rd_T34 t225 (wrap64 (Int.tmod (IntKind.u64.wrap (a0)) (IntKind.u64.wrap ((t225.length : Int)))))).f0) bt232.1).bind fun bt234 => (if ((rd_T34 t225 (wrap64 (Int.tmod (IntKind.u64.wrap (a0)) (IntKind.u64.wrap ((t225.length : Int)))))).f1) > 255 then (if (wrap64 (Int.tdiv ((rd_T34 t225 (wrap64 (Int.tmod (IntKind.u64.wrap (a0)) (IntKind.u64.wrap ((t225.length : Int)))))).f1) 256)) < 33 then (sobriquetlaw16_CsetsPlaces.j0 k bt230.1 bt230.2 bt232.2 bt234.1 bt234.2 (decide (((rd_T34 t225 (wrap64 (Int.tmod (IntKind.u64.wrap (a0)) (IntKind.u64.wrap ((t225.length : Int)))))).f1) > 255)) true ((rd_T34 t225 (wrap64 (Int.tmod (IntKind.u64.wrap (a0)) (IntKind.u64.wrap ((t225.length : Int)))))).f0) ((rd_T34 t225 (wrap64 (Int.tmod (IntKind.u64.wrap (a0)) (IntKind.u64.wrap ((t225.length : Int)))))).f1) ((rd_T34 t225 (wrap64 (Int.tmod (IntKind.u64.wrap (a0)) (IntKind.u64.wrap ((t225.length : Int)))))).f2)) else (if (wrap64 (Int.tdiv ((rd_T34 t225 (wrap64 (Int.tmod (IntKind.u64.wrap (a0)) (IntKind.u64.wrap ((t225.length : Int)))))).f1) 256)) > 126 then (sobriquetlaw16_CsetsPlaces.j0 k bt230.1 bt230.2 bt232.2 bt234.1 bt234.2 (decide (((rd_T34 t225 (wrap64 (Int.tmod (IntKind.u64.wrap (a0)) (IntKind.u64.wrap ((t225.length : Int)))))).f1) > 255)) true ((rd_T34 t225 (wrap64 (Int.tmod (IntKind.u64.wrap (a0)) (IntKind.u64.wrap ((t225.length : Int)))))).f0) ((rd_T34 t225 (wrap64 (Int.tmod (IntKind.u64.wrap (a0)) (IntKind.u64.wrap ((t225.length : Int)))))).f1) ((rd_T34 t225 (wrap64 (Int.tmod (IntKind.u64.wrap (a0)) (IntKind.u64.wrap ((t225.length : Int)))))).f2)) else (if (Int.tmod ((rd_T34 t225 (wrap64 (Int.tmod (IntKind.u64.wrap (a0)) (IntKind.u64.wrap ((t225.length : Int)))))).f1) 256) < 33 then (sobriquetlaw16_CsetsPlaces.j0 k bt230.1 bt230.2 bt232.2 bt234.1 bt234.2 (decide (((rd_T34 t225 (wrap64 (Int.tmod (IntKind.u64.wrap (a0)) (IntKind.u64.wrap ((t225.length : Int)))))).f1) > 255)) true ((rd_T34 t225 (wrap64 (Int.tmod (IntKind.u64.wrap (a0)) (IntKind.u64.wrap ((t225.length : Int)))))).f0) ((rd_T34 t225 (wrap64 (Int.tmod (IntKind.u64.wrap (a0)) (IntKind.u64.wrap ((t225.length : Int)))))).f1) ((rd_T34 t225 (wrap64 (Int.tmod (IntKind.u64.wrap (a0)) (IntKind.u64.wrap ((t225.length : Int)))))).f2)) else (sobriquetlaw16_CsetsPlaces.j0 k bt230.1 bt230.2 bt232.2 bt234.1 bt234.2 (decide (((rd_T34 t225 (wrap64 (Int.tmod (IntKind.u64.wrap (a0)) (IntKind.u64.wrap ((t225.length : Int)))))).f1) > 255)) (decide ((Int.tmod ((rd_T34 t225 (wrap64 (Int.tmod (IntKind.u64.wrap (a0)) (IntKind.u64.wrap ((t225.length : Int)))))).f1) 256) > 126)) ((rd_T34 t225 (wrap64 (Int.tmod (IntKind.u64.wrap (a0)) (IntKind.u64.wrap ((t225.length : Int)))))).f0) ((rd_T34 t225 (wrap64 (Int.tmod (IntKind.u64.wrap (a0)) (IntKind.u64.wrap ((t225.length : Int)))))).f1) ((rd_T34 t225 (wrap64 (Int.tmod (IntKind.u64.wrap (a0)) (IntKind.u64.wrap ((t225.length : Int)))))).f2))))) else (if (Int.tmod ((rd_T34 t225 (wrap64 (Int.tmod (IntKind.u64.wrap (a0)) (IntKind.u64.wrap ((t225.length : Int)))))).f1) 256) < 33 then (sobriquetlaw16_CsetsPlaces.j0 k bt230.1 bt230.2 bt232.2 bt234.1 bt234.2 (decide (((rd_T34 t225 (wrap64 (Int.tmod (IntKind.u64.wrap (a0)) (IntKind.u64.wrap ((t225.length : Int)))))).f1) > 255)) true ((rd_T34 t225 (wrap64 (Int.tmod (IntKind.u64.wrap (a0)) (IntKind.u64.wrap ((t225.length : Int)))))).f0) ((rd_T34 t225 (wrap64 (Int.tmod (IntKind.u64.wrap (a0)) (IntKind.u64.wrap ((t225.length : Int)))))).f1) ((rd_T34 t225 (wrap64 (Int.tmod (IntKind.u64.wrap (a0)) (IntKind.u64.wrap ((t225.length : Int)))))).f2)) else (sobriquetlaw16_CsetsPlaces.j0 k bt230.1 bt230.2 bt232.2 bt234.1 bt234.2 (decide (((rd_T34 t225 (wrap64 (Int.tmod (IntKind.u64.wrap (a0)) (IntKind.u64.wrap ((t225.length : Int)))))).f1) > 255)) (decide ((Int.tmod ((rd_T34 t225 (wrap64 (Int.tmod (IntKind.u64.wrap (a0)) (IntKind.u64.wrap ((t225.length : Int)))))).f1) 256) > 126)) ((rd_T34 t225 (wrap64 (Int.tmod (IntKind.u64.wrap (a0)) (IntKind.u64.wrap ((t225.length : Int)))))).f0) ((rd_T34 t225 (wrap64 (Int.tmod (IntKind.u64.wrap (a0)) (IntKind.u64.wrap ((t225.length : Int)))))).f1) ((rd_T34 t225 (wrap64 (Int.tmod (IntKind.u64.wrap (a0)) (IntKind.u64.wrap ((t225.length : Int)))))).f2))))))) else (none)) else (none))))
theorem sobriquetlaw16_CsetsPlaces.mono_l : ∀ k, (∀ y0 y1 y2 y3 y4 y5 y6 y7 y8 y9, LeO (sobriquetlaw16_CsetsPlaces.j0 k y0 y1 y2 y3 y4 y5 y6 y7 y8 y9) (sobriquetlaw16_CsetsPlaces.j0 (k + 1) y0 y1 y2 y3 y4 y5 y6 y7 y8 y9))
 | 0 => fun _ _ _ _ _ _ _ _ _ _ r h => by simp [sobriquetlaw16_CsetsPlaces.j0] at h
 | k + 1 => by
  have ih0 := sobriquetlaw16_CsetsPlaces.mono_l k
  ·intro y0 y1 y2 y3 y4 y5 y6 y7 y8 y9
   unfold sobriquetlaw16_CsetsPlaces.j0
   repeat' first
   | (with_reducible exact ih0 _ _ _ _ _ _ _ _ _ _)
   | (with_reducible exact csets_Find.mono _ _ _)
   | (with_reducible exact csets_Get.mono _ _ _)
   | (with_reducible exact sobriquetlaw16_wakes.mono _)
   | (with_reducible exact LeO.refl _)
   | (with_reducible exact LeO.none _)
   | (with_reducible refine LeO.ite ?_ ?_)
   | (with_reducible refine LeO.bind ?_ (fun _ => ?_))
   | exact ih0 _ _ _ _ _ _ _ _ _ _
   | exact csets_Find.mono _ _ _
   | exact csets_Get.mono _ _ _
   | exact sobriquetlaw16_wakes.mono _
   | exact LeO.none _
   | refine LeO.ite ?_ ?_
   | refine LeO.bind ?_ (fun _ => ?_)
theorem sobriquetlaw16_CsetsPlaces.mono : ∀ a0 k, LeO (sobriquetlaw16_CsetsPlaces.f k a0) (sobriquetlaw16_CsetsPlaces.f (k + 1) a0) := by
 intro a0 k
 have ih0 := sobriquetlaw16_CsetsPlaces.mono_l k
 unfold sobriquetlaw16_CsetsPlaces.f
 repeat' first
   | (with_reducible exact ih0 _ _ _ _ _ _ _ _ _ _)
   | (with_reducible exact csets_Find.mono _ _ _)
   | (with_reducible exact csets_Get.mono _ _ _)
   | (with_reducible exact sobriquetlaw16_wakes.mono _)
   | (with_reducible exact LeO.refl _)
   | (with_reducible exact LeO.none _)
   | (with_reducible refine LeO.ite ?_ ?_)
   | (with_reducible refine LeO.bind ?_ (fun _ => ?_))
   | exact ih0 _ _ _ _ _ _ _ _ _ _
   | exact csets_Find.mono _ _ _
   | exact csets_Get.mono _ _ _
   | exact sobriquetlaw16_wakes.mono _
   | exact LeO.none _
   | refine LeO.ite ?_ ?_
   | refine LeO.bind ?_ (fun _ => ?_)
set_option maxHeartbeats 8000000 in
set_option maxRecDepth 100000 in
theorem sobriquetlaw16_CsetsPlaces.calls (k : Nat) (a0 : Int) (r : Bool) (w : World) (h : sobriquetlaw16_CsetsPlaces.f k a0 = some r) :
  Calls Try.prog 4 #[.int .i64 a0] w fun e w' => e = .returned (.bool r) ∧ Below w.heap.size w w' := by
 have hu34 := Try.underlying34
 have HB := Aside0.mk (Below.refl w.heap.size w)
 have H : ((api_Codes.f).bind fun t225 => (if (t225.length : Int) = 0 then (some false) else (if (IntKind.u64.wrap ((t225.length : Int))) = 0 then (none) else (if 0 ≤ (wrap64 (Int.tmod (IntKind.u64.wrap (a0)) (IntKind.u64.wrap ((t225.length : Int))))) then (if (wrap64 (Int.tmod (IntKind.u64.wrap (a0)) (IntKind.u64.wrap ((t225.length : Int))))) < (t225.length : Int) then ((csets_Get.f k ((rd_T34 t225 (wrap64 (Int.tmod (IntKind.u64.wrap (a0)) (IntKind.u64.wrap ((t225.length : Int)))))).f0) ((rd_T34 t225 (wrap64 (Int.tmod (IntKind.u64.wrap (a0)) (IntKind.u64.wrap ((t225.length : Int)))))).f1)).bind fun bt230 => ((csets_Find.f k ((rd_T34 t225 (wrap64 (Int.tmod (IntKind.u64.wrap (a0)) (IntKind.u64.wrap ((t225.length : Int)))))).f0) ((rd_T34 t225 (wrap64 (Int.tmod (IntKind.u64.wrap (a0)) (IntKind.u64.wrap ((t225.length : Int)))))).f2)).bind fun bt232 => ((csets_Get.f k ((rd_T34 t225 (wrap64 (Int.tmod (IntKind.u64.wrap (a0)) (IntKind.u64.wrap ((t225.length : Int)))))).f0) bt232.1).bind fun bt234 => (if ((rd_T34 t225 (wrap64 (Int.tmod (IntKind.u64.wrap (a0)) (IntKind.u64.wrap ((t225.length : Int)))))).f1) > 255 then (if (wrap64 (Int.tdiv ((rd_T34 t225 (wrap64 (Int.tmod (IntKind.u64.wrap (a0)) (IntKind.u64.wrap ((t225.length : Int)))))).f1) 256)) < 33 then (sobriquetlaw16_CsetsPlaces.j0 k bt230.1 bt230.2 bt232.2 bt234.1 bt234.2 (decide (((rd_T34 t225 (wrap64 (Int.tmod (IntKind.u64.wrap (a0)) (IntKind.u64.wrap ((t225.length : Int)))))).f1) > 255)) true ((rd_T34 t225 (wrap64 (Int.tmod (IntKind.u64.wrap (a0)) (IntKind.u64.wrap ((t225.length : Int)))))).f0) ((rd_T34 t225 (wrap64 (Int.tmod (IntKind.u64.wrap (a0)) (IntKind.u64.wrap ((t225.length : Int)))))).f1) ((rd_T34 t225 (wrap64 (Int.tmod (IntKind.u64.wrap (a0)) (IntKind.u64.wrap ((t225.length : Int)))))).f2)) else (if (wrap64 (Int.tdiv ((rd_T34 t225 (wrap64 (Int.tmod (IntKind.u64.wrap (a0)) (IntKind.u64.wrap ((t225.length : Int)))))).f1) 256)) > 126 then (sobriquetlaw16_CsetsPlaces.j0 k bt230.1 bt230.2 bt232.2 bt234.1 bt234.2 (decide (((rd_T34 t225 (wrap64 (Int.tmod (IntKind.u64.wrap (a0)) (IntKind.u64.wrap ((t225.length : Int)))))).f1) > 255)) true ((rd_T34 t225 (wrap64 (Int.tmod (IntKind.u64.wrap (a0)) (IntKind.u64.wrap ((t225.length : Int)))))).f0) ((rd_T34 t225 (wrap64 (Int.tmod (IntKind.u64.wrap (a0)) (IntKind.u64.wrap ((t225.length : Int)))))).f1) ((rd_T34 t225 (wrap64 (Int.tmod (IntKind.u64.wrap (a0)) (IntKind.u64.wrap ((t225.length : Int)))))).f2)) else (if (Int.tmod ((rd_T34 t225 (wrap64 (Int.tmod (IntKind.u64.wrap (a0)) (IntKind.u64.wrap ((t225.length : Int)))))).f1) 256) < 33 then (sobriquetlaw16_CsetsPlaces.j0 k bt230.1 bt230.2 bt232.2 bt234.1 bt234.2 (decide (((rd_T34 t225 (wrap64 (Int.tmod (IntKind.u64.wrap (a0)) (IntKind.u64.wrap ((t225.length : Int)))))).f1) > 255)) true ((rd_T34 t225 (wrap64 (Int.tmod (IntKind.u64.wrap (a0)) (IntKind.u64.wrap ((t225.length : Int)))))).f0) ((rd_T34 t225 (wrap64 (Int.tmod (IntKind.u64.wrap (a0)) (IntKind.u64.wrap ((t225.length : Int)))))).f1) ((rd_T34 t225 (wrap64 (Int.tmod (IntKind.u64.wrap (a0)) (IntKind.u64.wrap ((t225.length : Int)))))).f2)) else (sobriquetlaw16_CsetsPlaces.j0 k bt230.1 bt230.2 bt232.2 bt234.1 bt234.2 (decide (((rd_T34 t225 (wrap64 (Int.tmod (IntKind.u64.wrap (a0)) (IntKind.u64.wrap ((t225.length : Int)))))).f1) > 255)) (decide ((Int.tmod ((rd_T34 t225 (wrap64 (Int.tmod (IntKind.u64.wrap (a0)) (IntKind.u64.wrap ((t225.length : Int)))))).f1) 256) > 126)) ((rd_T34 t225 (wrap64 (Int.tmod (IntKind.u64.wrap (a0)) (IntKind.u64.wrap ((t225.length : Int)))))).f0) ((rd_T34 t225 (wrap64 (Int.tmod (IntKind.u64.wrap (a0)) (IntKind.u64.wrap ((t225.length : Int)))))).f1) ((rd_T34 t225 (wrap64 (Int.tmod (IntKind.u64.wrap (a0)) (IntKind.u64.wrap ((t225.length : Int)))))).f2))))) else (if (Int.tmod ((rd_T34 t225 (wrap64 (Int.tmod (IntKind.u64.wrap (a0)) (IntKind.u64.wrap ((t225.length : Int)))))).f1) 256) < 33 then (sobriquetlaw16_CsetsPlaces.j0 k bt230.1 bt230.2 bt232.2 bt234.1 bt234.2 (decide (((rd_T34 t225 (wrap64 (Int.tmod (IntKind.u64.wrap (a0)) (IntKind.u64.wrap ((t225.length : Int)))))).f1) > 255)) true ((rd_T34 t225 (wrap64 (Int.tmod (IntKind.u64.wrap (a0)) (IntKind.u64.wrap ((t225.length : Int)))))).f0) ((rd_T34 t225 (wrap64 (Int.tmod (IntKind.u64.wrap (a0)) (IntKind.u64.wrap ((t225.length : Int)))))).f1) ((rd_T34 t225 (wrap64 (Int.tmod (IntKind.u64.wrap (a0)) (IntKind.u64.wrap ((t225.length : Int)))))).f2)) else (sobriquetlaw16_CsetsPlaces.j0 k bt230.1 bt230.2 bt232.2 bt234.1 bt234.2 (decide (((rd_T34 t225 (wrap64 (Int.tmod (IntKind.u64.wrap (a0)) (IntKind.u64.wrap ((t225.length : Int)))))).f1) > 255)) (decide ((Int.tmod ((rd_T34 t225 (wrap64 (Int.tmod (IntKind.u64.wrap (a0)) (IntKind.u64.wrap ((t225.length : Int)))))).f1) 256) > 126)) ((rd_T34 t225 (wrap64 (Int.tmod (IntKind.u64.wrap (a0)) (IntKind.u64.wrap ((t225.length : Int)))))).f0) ((rd_T34 t225 (wrap64 (Int.tmod (IntKind.u64.wrap (a0)) (IntKind.u64.wrap ((t225.length : Int)))))).f1) ((rd_T34 t225 (wrap64 (Int.tmod (IntKind.u64.wrap (a0)) (IntKind.u64.wrap ((t225.length : Int)))))).f2))))))) else (none)) else (none))))) = some r := h
 clear h
 replace H := Option.bind_eq_some_iff.mp H
 obtain ⟨t225, A20, H⟩ := H
 replace H : (if (t225.length : Int) = 0 then (some false) else (if (IntKind.u64.wrap ((t225.length : Int))) = 0 then (none) else (if 0 ≤ (wrap64 (Int.tmod (IntKind.u64.wrap (a0)) (IntKind.u64.wrap ((t225.length : Int))))) then (if (wrap64 (Int.tmod (IntKind.u64.wrap (a0)) (IntKind.u64.wrap ((t225.length : Int))))) < (t225.length : Int) then ((csets_Get.f k ((rd_T34 t225 (wrap64 (Int.tmod (IntKind.u64.wrap (a0)) (IntKind.u64.wrap ((t225.length : Int)))))).f0) ((rd_T34 t225 (wrap64 (Int.tmod (IntKind.u64.wrap (a0)) (IntKind.u64.wrap ((t225.length : Int)))))).f1)).bind fun bt230 => ((csets_Find.f k ((rd_T34 t225 (wrap64 (Int.tmod (IntKind.u64.wrap (a0)) (IntKind.u64.wrap ((t225.length : Int)))))).f0) ((rd_T34 t225 (wrap64 (Int.tmod (IntKind.u64.wrap (a0)) (IntKind.u64.wrap ((t225.length : Int)))))).f2)).bind fun bt232 => ((csets_Get.f k ((rd_T34 t225 (wrap64 (Int.tmod (IntKind.u64.wrap (a0)) (IntKind.u64.wrap ((t225.length : Int)))))).f0) bt232.1).bind fun bt234 => (if ((rd_T34 t225 (wrap64 (Int.tmod (IntKind.u64.wrap (a0)) (IntKind.u64.wrap ((t225.length : Int)))))).f1) > 255 then (if (wrap64 (Int.tdiv ((rd_T34 t225 (wrap64 (Int.tmod (IntKind.u64.wrap (a0)) (IntKind.u64.wrap ((t225.length : Int)))))).f1) 256)) < 33 then (sobriquetlaw16_CsetsPlaces.j0 k bt230.1 bt230.2 bt232.2 bt234.1 bt234.2 (decide (((rd_T34 t225 (wrap64 (Int.tmod (IntKind.u64.wrap (a0)) (IntKind.u64.wrap ((t225.length : Int)))))).f1) > 255)) true ((rd_T34 t225 (wrap64 (Int.tmod (IntKind.u64.wrap (a0)) (IntKind.u64.wrap ((t225.length : Int)))))).f0) ((rd_T34 t225 (wrap64 (Int.tmod (IntKind.u64.wrap (a0)) (IntKind.u64.wrap ((t225.length : Int)))))).f1) ((rd_T34 t225 (wrap64 (Int.tmod (IntKind.u64.wrap (a0)) (IntKind.u64.wrap ((t225.length : Int)))))).f2)) else (if (wrap64 (Int.tdiv ((rd_T34 t225 (wrap64 (Int.tmod (IntKind.u64.wrap (a0)) (IntKind.u64.wrap ((t225.length : Int)))))).f1) 256)) > 126 then (sobriquetlaw16_CsetsPlaces.j0 k bt230.1 bt230.2 bt232.2 bt234.1 bt234.2 (decide (((rd_T34 t225 (wrap64 (Int.tmod (IntKind.u64.wrap (a0)) (IntKind.u64.wrap ((t225.length : Int)))))).f1) > 255)) true ((rd_T34 t225 (wrap64 (Int.tmod (IntKind.u64.wrap (a0)) (IntKind.u64.wrap ((t225.length : Int)))))).f0) ((rd_T34 t225 (wrap64 (Int.tmod (IntKind.u64.wrap (a0)) (IntKind.u64.wrap ((t225.length : Int)))))).f1) ((rd_T34 t225 (wrap64 (Int.tmod (IntKind.u64.wrap (a0)) (IntKind.u64.wrap ((t225.length : Int)))))).f2)) else (if (Int.tmod ((rd_T34 t225 (wrap64 (Int.tmod (IntKind.u64.wrap (a0)) (IntKind.u64.wrap ((t225.length : Int)))))).f1) 256) < 33 then (sobriquetlaw16_CsetsPlaces.j0 k bt230.1 bt230.2 bt232.2 bt234.1 bt234.2 (decide (((rd_T34 t225 (wrap64 (Int.tmod (IntKind.u64.wrap (a0)) (IntKind.u64.wrap ((t225.length : Int)))))).f1) > 255)) true ((rd_T34 t225 (wrap64 (Int.tmod (IntKind.u64.wrap (a0)) (IntKind.u64.wrap ((t225.length : Int)))))).f0) ((rd_T34 t225 (wrap64 (Int.tmod (IntKind.u64.wrap (a0)) (IntKind.u64.wrap ((t225.length : Int)))))).f1) ((rd_T34 t225 (wrap64 (Int.tmod (IntKind.u64.wrap (a0)) (IntKind.u64.wrap ((t225.length : Int)))))).f2)) else (sobriquetlaw16_CsetsPlaces.j0 k bt230.1 bt230.2 bt232.2 bt234.1 bt234.2 (decide (((rd_T34 t225 (wrap64 (Int.tmod (IntKind.u64.wrap (a0)) (IntKind.u64.wrap ((t225.length : Int)))))).f1) > 255)) (decide ((Int.tmod ((rd_T34 t225 (wrap64 (Int.tmod (IntKind.u64.wrap (a0)) (IntKind.u64.wrap ((t225.length : Int)))))).f1) 256) > 126)) ((rd_T34 t225 (wrap64 (Int.tmod (IntKind.u64.wrap (a0)) (IntKind.u64.wrap ((t225.length : Int)))))).f0) ((rd_T34 t225 (wrap64 (Int.tmod (IntKind.u64.wrap (a0)) (IntKind.u64.wrap ((t225.length : Int)))))).f1) ((rd_T34 t225 (wrap64 (Int.tmod (IntKind.u64.wrap (a0)) (IntKind.u64.wrap ((t225.length : Int)))))).f2))))) else (if (Int.tmod ((rd_T34 t225 (wrap64 (Int.tmod (IntKind.u64.wrap (a0)) (IntKind.u64.wrap ((t225.length : Int)))))).f1) 256) < 33 then (sobriquetlaw16_CsetsPlaces.j0 k bt230.1 bt230.2 bt232.2 bt234.1 bt234.2 (decide (((rd_T34 t225 (wrap64 (Int.tmod (IntKind.u64.wrap (a0)) (IntKind.u64.wrap ((t225.length : Int)))))).f1) > 255)) true ((rd_T34 t225 (wrap64 (Int.tmod (IntKind.u64.wrap (a0)) (IntKind.u64.wrap ((t225.length : Int)))))).f0) ((rd_T34 t225 (wrap64 (Int.tmod (IntKind.u64.wrap (a0)) (IntKind.u64.wrap ((t225.length : Int)))))).f1) ((rd_T34 t225 (wrap64 (Int.tmod (IntKind.u64.wrap (a0)) (IntKind.u64.wrap ((t225.length : Int)))))).f2)) else (sobriquetlaw16_CsetsPlaces.j0 k bt230.1 bt230.2 bt232.2 bt234.1 bt234.2 (decide (((rd_T34 t225 (wrap64 (Int.tmod (IntKind.u64.wrap (a0)) (IntKind.u64.wrap ((t225.length : Int)))))).f1) > 255)) (decide ((Int.tmod ((rd_T34 t225 (wrap64 (Int.tmod (IntKind.u64.wrap (a0)) (IntKind.u64.wrap ((t225.length : Int)))))).f1) 256) > 126)) ((rd_T34 t225 (wrap64 (Int.tmod (IntKind.u64.wrap (a0)) (IntKind.u64.wrap ((t225.length : Int)))))).f0) ((rd_T34 t225 (wrap64 (Int.tmod (IntKind.u64.wrap (a0)) (IntKind.u64.wrap ((t225.length : Int)))))).f1) ((rd_T34 t225 (wrap64 (Int.tmod (IntKind.u64.wrap (a0)) (IntKind.u64.wrap ((t225.length : Int)))))).f2))))))) else (none)) else (none)))) = some r := H
 have A2 := Aside0.mk A20
 clear A20
 by_cases c3 : (t225.length : Int) = 0
 ·rw [if_pos c3] at H
  have c3b0 : ((t225.length : Int) == 0) = true := beq_iff_eq.mpr c3
  have c3b1 : ((t225.length : Int) != 0) = false := bne_eq_false_iff_eq.mpr c3
  clear c3
  obtain rfl := Option.some.inj H
  go_enter Try.func4, Try.ntmps4
  go_wp2_with (first | ((with_reducible refine gate_callee (f := 12) rfl ?_); refine goesL_ (some 12) rfl rfl Try.func12 (by kernel_rfl) rfl #[] rfl (by (try simp only [List.map_toArray, List.map_cons, List.map_nil]); first | done | rfl | (simp only [List.length_drop, List.length_take]; rfl)) ?_; (with_reducible refine (api_Codes.calls  t225 _ A2.out).mono ?_); rintro e w4 ⟨v226, rfl, ho0, hb⟩; refine ⟨_, rfl, ?_⟩; have n0_ := Aside0.mk (Kd.R_lower ho0 (below_size (by repeat (first | (with_reducible first | exact HB.out | apply below_alloc | apply pw_below_drewN | apply below_drew1) | exact HB.out)))); have n1_ := Aside0.mk (below_step (by repeat (first | (with_reducible first | exact HB.out | apply below_alloc | apply pw_below_drewN | apply below_drew1) | exact HB.out)) hb); clear HB; have HO227 := n0_; have HB := n1_; clear n0_ n1_; (try clear hb); (try clear hb2); (try clear hk); (try clear hi); (try clear ho0); obtain ⟨Ao5, co5, eo5⟩ := Kd.R_slice HO227.out; subst eo5))
  go_ret
  exact ⟨by first | rfl | (simp [errW_none, errW_some] <;> rfl) | (simp [*, errW_none, errW_some] <;> rfl), by repeat (first | (with_reducible first | exact HB.out | apply below_alloc | apply pw_below_drewN | apply below_drew1) | exact HB.out)⟩
 ·rw [if_neg c3] at H
  have c3b0 : ((t225.length : Int) == 0) = false := beq_eq_false_iff_ne.mpr c3
  have c3b1 : ((t225.length : Int) != 0) = true := bne_iff_ne.mpr c3
  have c3b2 : ¬ (t225 = []) := fun h_ => c3 (by rw [h_]; rfl)
  by_cases c6 : (IntKind.u64.wrap ((t225.length : Int))) = 0
  ·rw [if_pos c6] at H
   exact absurd H (by simp)
  ·rw [if_neg c6] at H
   have c6b0 : ((IntKind.u64.wrap ((t225.length : Int))) == 0) = false := beq_eq_false_iff_ne.mpr c6
   have c6b1 : ((IntKind.u64.wrap ((t225.length : Int))) != 0) = true := bne_iff_ne.mpr c6
   obtain ⟨ji7, hji7⟩ : ∃ j_ : Int, (wrap64 (Int.tmod (IntKind.u64.wrap (a0)) (IntKind.u64.wrap ((t225.length : Int))))) = j_ := ⟨_, rfl⟩
   replace H : (if 0 ≤ (ji7) then (if (ji7) < (t225.length : Int) then ((csets_Get.f k ((rd_T34 t225 (ji7)).f0) ((rd_T34 t225 (ji7)).f1)).bind fun bt230 => ((csets_Find.f k ((rd_T34 t225 (ji7)).f0) ((rd_T34 t225 (ji7)).f2)).bind fun bt232 => ((csets_Get.f k ((rd_T34 t225 (ji7)).f0) bt232.1).bind fun bt234 => (if ((rd_T34 t225 (ji7)).f1) > 255 then (if (wrap64 (Int.tdiv ((rd_T34 t225 (ji7)).f1) 256)) < 33 then (sobriquetlaw16_CsetsPlaces.j0 k bt230.1 bt230.2 bt232.2 bt234.1 bt234.2 (decide (((rd_T34 t225 (ji7)).f1) > 255)) true ((rd_T34 t225 (ji7)).f0) ((rd_T34 t225 (ji7)).f1) ((rd_T34 t225 (ji7)).f2)) else (if (wrap64 (Int.tdiv ((rd_T34 t225 (ji7)).f1) 256)) > 126 then (sobriquetlaw16_CsetsPlaces.j0 k bt230.1 bt230.2 bt232.2 bt234.1 bt234.2 (decide (((rd_T34 t225 (ji7)).f1) > 255)) true ((rd_T34 t225 (ji7)).f0) ((rd_T34 t225 (ji7)).f1) ((rd_T34 t225 (ji7)).f2)) else (if (Int.tmod ((rd_T34 t225 (ji7)).f1) 256) < 33 then (sobriquetlaw16_CsetsPlaces.j0 k bt230.1 bt230.2 bt232.2 bt234.1 bt234.2 (decide (((rd_T34 t225 (ji7)).f1) > 255)) true ((rd_T34 t225 (ji7)).f0) ((rd_T34 t225 (ji7)).f1) ((rd_T34 t225 (ji7)).f2)) else (sobriquetlaw16_CsetsPlaces.j0 k bt230.1 bt230.2 bt232.2 bt234.1 bt234.2 (decide (((rd_T34 t225 (ji7)).f1) > 255)) (decide ((Int.tmod ((rd_T34 t225 (ji7)).f1) 256) > 126)) ((rd_T34 t225 (ji7)).f0) ((rd_T34 t225 (ji7)).f1) ((rd_T34 t225 (ji7)).f2))))) else (if (Int.tmod ((rd_T34 t225 (ji7)).f1) 256) < 33 then (sobriquetlaw16_CsetsPlaces.j0 k bt230.1 bt230.2 bt232.2 bt234.1 bt234.2 (decide (((rd_T34 t225 (ji7)).f1) > 255)) true ((rd_T34 t225 (ji7)).f0) ((rd_T34 t225 (ji7)).f1) ((rd_T34 t225 (ji7)).f2)) else (sobriquetlaw16_CsetsPlaces.j0 k bt230.1 bt230.2 bt232.2 bt234.1 bt234.2 (decide (((rd_T34 t225 (ji7)).f1) > 255)) (decide ((Int.tmod ((rd_T34 t225 (ji7)).f1) 256) > 126)) ((rd_T34 t225 (ji7)).f0) ((rd_T34 t225 (ji7)).f1) ((rd_T34 t225 (ji7)).f2))))))) else (none)) else (none)) = some r := by first | (rw [hji7] at H; exact H) | (simp only [hji7] at H ⊢; exact H)
   (try rw [hji7] at A2)
   have hji7w : (IntKind.i64.wrap (Int.tmod (IntKind.u64.wrap (a0)) (IntKind.u64.wrap ((t225.length : Int))))) = ji7 := (i64_w _).trans hji7
   by_cases c8 : 0 ≤ (ji7)
   ·rw [if_pos c8] at H
    have c8b0 : decide (0 ≤ (ji7)) = true := decide_eq_true c8
    clear c8
    by_cases c9 : (ji7) < (t225.length : Int)
    ·rw [if_pos c9] at H
     have c9b0 : decide ((ji7) < (t225.length : Int)) = true := decide_eq_true c9
     clear c9
     replace H := Option.bind_eq_some_iff.mp H
     obtain ⟨⟨t230, t231⟩, A100, H⟩ := H
     replace H : ((csets_Find.f k ((rd_T34 t225 (ji7)).f0) ((rd_T34 t225 (ji7)).f2)).bind fun bt232 => ((csets_Get.f k ((rd_T34 t225 (ji7)).f0) bt232.1).bind fun bt234 => (if ((rd_T34 t225 (ji7)).f1) > 255 then (if (wrap64 (Int.tdiv ((rd_T34 t225 (ji7)).f1) 256)) < 33 then (sobriquetlaw16_CsetsPlaces.j0 k t230 t231 bt232.2 bt234.1 bt234.2 (decide (((rd_T34 t225 (ji7)).f1) > 255)) true ((rd_T34 t225 (ji7)).f0) ((rd_T34 t225 (ji7)).f1) ((rd_T34 t225 (ji7)).f2)) else (if (wrap64 (Int.tdiv ((rd_T34 t225 (ji7)).f1) 256)) > 126 then (sobriquetlaw16_CsetsPlaces.j0 k t230 t231 bt232.2 bt234.1 bt234.2 (decide (((rd_T34 t225 (ji7)).f1) > 255)) true ((rd_T34 t225 (ji7)).f0) ((rd_T34 t225 (ji7)).f1) ((rd_T34 t225 (ji7)).f2)) else (if (Int.tmod ((rd_T34 t225 (ji7)).f1) 256) < 33 then (sobriquetlaw16_CsetsPlaces.j0 k t230 t231 bt232.2 bt234.1 bt234.2 (decide (((rd_T34 t225 (ji7)).f1) > 255)) true ((rd_T34 t225 (ji7)).f0) ((rd_T34 t225 (ji7)).f1) ((rd_T34 t225 (ji7)).f2)) else (sobriquetlaw16_CsetsPlaces.j0 k t230 t231 bt232.2 bt234.1 bt234.2 (decide (((rd_T34 t225 (ji7)).f1) > 255)) (decide ((Int.tmod ((rd_T34 t225 (ji7)).f1) 256) > 126)) ((rd_T34 t225 (ji7)).f0) ((rd_T34 t225 (ji7)).f1) ((rd_T34 t225 (ji7)).f2))))) else (if (Int.tmod ((rd_T34 t225 (ji7)).f1) 256) < 33 then (sobriquetlaw16_CsetsPlaces.j0 k t230 t231 bt232.2 bt234.1 bt234.2 (decide (((rd_T34 t225 (ji7)).f1) > 255)) true ((rd_T34 t225 (ji7)).f0) ((rd_T34 t225 (ji7)).f1) ((rd_T34 t225 (ji7)).f2)) else (sobriquetlaw16_CsetsPlaces.j0 k t230 t231 bt232.2 bt234.1 bt234.2 (decide (((rd_T34 t225 (ji7)).f1) > 255)) (decide ((Int.tmod ((rd_T34 t225 (ji7)).f1) 256) > 126)) ((rd_T34 t225 (ji7)).f0) ((rd_T34 t225 (ji7)).f1) ((rd_T34 t225 (ji7)).f2)))))) = some r := H
     have A10 := Aside0.mk A100
     clear A100
     replace H := Option.bind_eq_some_iff.mp H
     obtain ⟨⟨t232, t233⟩, A110, H⟩ := H
     replace H : ((csets_Get.f k ((rd_T34 t225 (ji7)).f0) t232).bind fun bt234 => (if ((rd_T34 t225 (ji7)).f1) > 255 then (if (wrap64 (Int.tdiv ((rd_T34 t225 (ji7)).f1) 256)) < 33 then (sobriquetlaw16_CsetsPlaces.j0 k t230 t231 t233 bt234.1 bt234.2 (decide (((rd_T34 t225 (ji7)).f1) > 255)) true ((rd_T34 t225 (ji7)).f0) ((rd_T34 t225 (ji7)).f1) ((rd_T34 t225 (ji7)).f2)) else (if (wrap64 (Int.tdiv ((rd_T34 t225 (ji7)).f1) 256)) > 126 then (sobriquetlaw16_CsetsPlaces.j0 k t230 t231 t233 bt234.1 bt234.2 (decide (((rd_T34 t225 (ji7)).f1) > 255)) true ((rd_T34 t225 (ji7)).f0) ((rd_T34 t225 (ji7)).f1) ((rd_T34 t225 (ji7)).f2)) else (if (Int.tmod ((rd_T34 t225 (ji7)).f1) 256) < 33 then (sobriquetlaw16_CsetsPlaces.j0 k t230 t231 t233 bt234.1 bt234.2 (decide (((rd_T34 t225 (ji7)).f1) > 255)) true ((rd_T34 t225 (ji7)).f0) ((rd_T34 t225 (ji7)).f1) ((rd_T34 t225 (ji7)).f2)) else (sobriquetlaw16_CsetsPlaces.j0 k t230 t231 t233 bt234.1 bt234.2 (decide (((rd_T34 t225 (ji7)).f1) > 255)) (decide ((Int.tmod ((rd_T34 t225 (ji7)).f1) 256) > 126)) ((rd_T34 t225 (ji7)).f0) ((rd_T34 t225 (ji7)).f1) ((rd_T34 t225 (ji7)).f2))))) else (if (Int.tmod ((rd_T34 t225 (ji7)).f1) 256) < 33 then (sobriquetlaw16_CsetsPlaces.j0 k t230 t231 t233 bt234.1 bt234.2 (decide (((rd_T34 t225 (ji7)).f1) > 255)) true ((rd_T34 t225 (ji7)).f0) ((rd_T34 t225 (ji7)).f1) ((rd_T34 t225 (ji7)).f2)) else (sobriquetlaw16_CsetsPlaces.j0 k t230 t231 t233 bt234.1 bt234.2 (decide (((rd_T34 t225 (ji7)).f1) > 255)) (decide ((Int.tmod ((rd_T34 t225 (ji7)).f1) 256) > 126)) ((rd_T34 t225 (ji7)).f0) ((rd_T34 t225 (ji7)).f1) ((rd_T34 t225 (ji7)).f2))))) = some r := H
     have A11 := Aside0.mk A110
     clear A110
     replace H := Option.bind_eq_some_iff.mp H
     obtain ⟨⟨t234, t235⟩, A120, H⟩ := H
     replace H : (if ((rd_T34 t225 (ji7)).f1) > 255 then (if (wrap64 (Int.tdiv ((rd_T34 t225 (ji7)).f1) 256)) < 33 then (sobriquetlaw16_CsetsPlaces.j0 k t230 t231 t233 t234 t235 (decide (((rd_T34 t225 (ji7)).f1) > 255)) true ((rd_T34 t225 (ji7)).f0) ((rd_T34 t225 (ji7)).f1) ((rd_T34 t225 (ji7)).f2)) else (if (wrap64 (Int.tdiv ((rd_T34 t225 (ji7)).f1) 256)) > 126 then (sobriquetlaw16_CsetsPlaces.j0 k t230 t231 t233 t234 t235 (decide (((rd_T34 t225 (ji7)).f1) > 255)) true ((rd_T34 t225 (ji7)).f0) ((rd_T34 t225 (ji7)).f1) ((rd_T34 t225 (ji7)).f2)) else (if (Int.tmod ((rd_T34 t225 (ji7)).f1) 256) < 33 then (sobriquetlaw16_CsetsPlaces.j0 k t230 t231 t233 t234 t235 (decide (((rd_T34 t225 (ji7)).f1) > 255)) true ((rd_T34 t225 (ji7)).f0) ((rd_T34 t225 (ji7)).f1) ((rd_T34 t225 (ji7)).f2)) else (sobriquetlaw16_CsetsPlaces.j0 k t230 t231 t233 t234 t235 (decide (((rd_T34 t225 (ji7)).f1) > 255)) (decide ((Int.tmod ((rd_T34 t225 (ji7)).f1) 256) > 126)) ((rd_T34 t225 (ji7)).f0) ((rd_T34 t225 (ji7)).f1) ((rd_T34 t225 (ji7)).f2))))) else (if (Int.tmod ((rd_T34 t225 (ji7)).f1) 256) < 33 then (sobriquetlaw16_CsetsPlaces.j0 k t230 t231 t233 t234 t235 (decide (((rd_T34 t225 (ji7)).f1) > 255)) true ((rd_T34 t225 (ji7)).f0) ((rd_T34 t225 (ji7)).f1) ((rd_T34 t225 (ji7)).f2)) else (sobriquetlaw16_CsetsPlaces.j0 k t230 t231 t233 t234 t235 (decide (((rd_T34 t225 (ji7)).f1) > 255)) (decide ((Int.tmod ((rd_T34 t225 (ji7)).f1) 256) > 126)) ((rd_T34 t225 (ji7)).f0) ((rd_T34 t225 (ji7)).f1) ((rd_T34 t225 (ji7)).f2)))) = some r := H
     have A12 := Aside0.mk A120
     clear A120
     have HC13 := Aside0.mk H
     clear H
     go_enter Try.func4, Try.ntmps4
     go_upto_region 9 with (first | ((with_reducible refine gate_callee (f := 12) rfl ?_); refine goesL_ (some 12) rfl rfl Try.func12 (by kernel_rfl) rfl #[] rfl (by (try simp only [List.map_toArray, List.map_cons, List.map_nil]); first | done | rfl | (simp only [List.length_drop, List.length_take]; rfl)) ?_; (with_reducible refine (api_Codes.calls  t225 _ A2.out).mono ?_); rintro e w14 ⟨v226, rfl, ho0, hb⟩; refine ⟨_, rfl, ?_⟩; have n0_ := Aside0.mk (Kd.R_lower ho0 (below_size (by repeat (first | (with_reducible first | exact HB.out | apply below_alloc | apply pw_below_drewN | apply below_drew1) | exact HB.out)))); have n1_ := Aside0.mk (below_step (by repeat (first | (with_reducible first | exact HB.out | apply below_alloc | apply pw_below_drewN | apply below_drew1) | exact HB.out)) hb); clear HB; have HO227 := n0_; have HB := n1_; clear n0_ n1_; (try clear hb); (try clear hb2); (try clear hk); (try clear hi); (try clear ho0); obtain ⟨Ao15, co15, eo15⟩ := Kd.R_slice HO227.out; subst eo15; have p228 : 0 ≤ ((ji7) : Int) := of_decide_eq_true (by first | (with_reducible assumption) | assumption); have q228 : (ji7) < (t225.length : Int) := of_decide_eq_true (by first | (with_reducible assumption) | assumption); obtain ⟨ad228, e228, hx228_0, hx228_1, hx228_2⟩ := at_T34 (Kd.R_reads' HO227.out).2.2 (ji7) p228 q228; cases e228; replace p228 := eq_true p228; replace q228 := eq_true q228) | ((with_reducible refine gate_dst (N := 4) rfl ?_); refine box_event ?hg (N := 4) ?hd (cs := #[.int .i64 0, .int .i64 0, .int .i64 0]) (t := 34) ?hr ?_; (case hd => rfl); (case hg => rfl); (case hr => first | (go_simp; done) | (go_simp; rfl)); intro gb229 hg w16 hbox hb; have n0_ := Aside0.mk (Kd.R_below (Kd.R_elderB (by (with_reducible repeat (first | apply Kd.R_alloc | apply Kd.R_drewN | apply Kd.R_drew)); exact HO227.out) gb229 (Nat.le_of_eq hg.symm)) hb); have n1_ := Aside0.mk (below_step (by repeat (first | (with_reducible first | exact HB.out | apply below_alloc | apply pw_below_drewN | apply below_drew1) | exact HB.out)) hb); have n2_ := Aside0.mk (hbox); have n3_ := Aside0.mk ((by rw [hg]; exact (below_size (by repeat (first | (with_reducible first | exact HB.out | apply below_alloc | apply pw_below_drewN | apply below_drew1) | exact HB.out))) : w.heap.size ≤ gb229)); have n4_ := Aside0.mk ((by rw [hg]; exact (below_size (by repeat (first | (with_reducible first | exact HB.out | apply below_alloc | apply pw_below_drewN | apply below_drew1) | exact HB.out))) : w.heap.size ≤ gb229)); clear HO227; clear HB; have HO227 := n0_; have HB := n1_; have BK229 := n2_; have GW229 := n3_; have GE229 := n4_; clear n0_ n1_ n2_ n3_ n4_; clear hb hbox hg; have hcz17_0 : w16.cell? ⟨gb229, 0, none⟩ = some (.int .i64 0) := (blk_cell BK229.out 0).trans rfl; have hcz17_1 : w16.cell? ⟨gb229, 1, none⟩ = some (.int .i64 0) := (blk_cell BK229.out 1).trans rfl; have hcz17_2 : w16.cell? ⟨gb229, 2, none⟩ = some (.int .i64 0) := (blk_cell BK229.out 2).trans rfl; have hfz17_0 := blk_frozen BK229.out 0; have hfz17_1 := blk_frozen BK229.out 1; have hfz17_2 := blk_frozen BK229.out 2) | ((with_reducible refine gate_callee (f := 13) rfl ?_); refine goesL_ (some 31) rfl rfl Try.func13 (by kernel_rfl) rfl #[.int .i64 ((rd_T34 t225 (ji7)).f0), .int .i64 ((rd_T34 t225 (ji7)).f1)] rfl (by (try simp only [List.map_toArray, List.map_cons, List.map_nil]); first | done | (simp only [hji7]; rfl) | rfl | (simp only [List.length_drop, List.length_take]; rfl)) ?_; (with_reducible refine (csets_Get.calls k ((rd_T34 t225 (ji7)).f0) ((rd_T34 t225 (ji7)).f1) t230 t231 _ A10.out).mono ?_); rintro e w18 ⟨rfl, hb⟩; refine ⟨_, rfl, ?_⟩; have n0_ := Aside0.mk (Kd.R_below (by (with_reducible repeat (first | apply Kd.R_alloc | apply Kd.R_drewN | apply Kd.R_drew)); exact (Kd.R_mono (Kd.R_far (p := ⟨gb229, 2, none⟩) (Kd.R_far (p := ⟨gb229, 1, none⟩) (Kd.R_far (p := ⟨gb229, 0, none⟩) (Kd.R_mono HO227.out (fun k_ hk => (⟨hk, hk.2⟩ : _ ∧ k_ ≠ gb229))) (fun _ hk => hk.2) (.int .i64 ((rd_T34 t225 (ji7)).f0))) (fun _ hk => hk.2) (.int .i64 ((rd_T34 t225 (ji7)).f1))) (fun _ hk => hk.2) (.int .i64 ((rd_T34 t225 (ji7)).f2))) (fun _ h_ => h_.1))) hb); have n1_ := Aside0.mk (blk_below (g := gb229) (o := .cells #[.int .i64 ((rd_T34 t225 (ji7)).f0), .int .i64 ((rd_T34 t225 (ji7)).f1), .int .i64 ((rd_T34 t225 (ji7)).f2)] 34 (0, 0)) (by (with_reducible repeat (first | refine blk_drewN ?_ _ | refine blk_drew ?_ | refine blk_alloc ?_ _)); refine blk_put (cs := #[.int .i64 ((rd_T34 t225 (ji7)).f0), .int .i64 ((rd_T34 t225 (ji7)).f1), .int .i64 0]) ?_ 2 _ rfl; (with_reducible repeat (first | refine blk_drewN ?_ _ | refine blk_drew ?_ | refine blk_alloc ?_ _)); refine blk_put (cs := #[.int .i64 ((rd_T34 t225 (ji7)).f0), .int .i64 0, .int .i64 0]) ?_ 1 _ rfl; (with_reducible repeat (first | refine blk_drewN ?_ _ | refine blk_drew ?_ | refine blk_alloc ?_ _)); refine blk_put (cs := #[.int .i64 0, .int .i64 0, .int .i64 0]) ?_ 0 _ rfl; (with_reducible repeat (first | refine blk_drewN ?_ _ | refine blk_drew ?_ | refine blk_alloc ?_ _)); exact BK229.out) hb); have n2_ := Aside0.mk (below_step (by repeat (first | (with_reducible first | exact HB.out | apply below_alloc | apply pw_below_drewN | apply below_drew1 | refine below_set ?_ GE229.out) | exact HB.out)) hb); clear HO227; clear BK229; clear HB; have HO227 := n0_; have BK229 := n1_; have HB := n2_; clear n0_ n1_ n2_; (try clear hb); (try clear hb2); (try clear hk); (try clear hi); have hcz19_0 : w18.cell? ⟨gb229, 0, none⟩ = some (.int .i64 ((rd_T34 t225 (ji7)).f0)) := (blk_cell BK229.out 0).trans rfl; have hcz19_1 : w18.cell? ⟨gb229, 1, none⟩ = some (.int .i64 ((rd_T34 t225 (ji7)).f1)) := (blk_cell BK229.out 1).trans rfl; have hcz19_2 : w18.cell? ⟨gb229, 2, none⟩ = some (.int .i64 ((rd_T34 t225 (ji7)).f2)) := (blk_cell BK229.out 2).trans rfl; have hfz19_0 := blk_frozen BK229.out 0; have hfz19_1 := blk_frozen BK229.out 1; have hfz19_2 := blk_frozen BK229.out 2) | ((with_reducible refine gate_callee (f := 14) rfl ?_); refine goesL_ (some 39) rfl rfl Try.func14 (by kernel_rfl) rfl #[.int .i64 ((rd_T34 t225 (ji7)).f0), .int .i64 ((rd_T34 t225 (ji7)).f2)] rfl (by (try simp only [List.map_toArray, List.map_cons, List.map_nil]); first | done | (simp only [hji7]; rfl) | rfl | (simp only [List.length_drop, List.length_take]; rfl)) ?_; (with_reducible refine (csets_Find.calls k ((rd_T34 t225 (ji7)).f0) ((rd_T34 t225 (ji7)).f2) t232 t233 _ A11.out).mono ?_); rintro e w20 ⟨rfl, hb⟩; refine ⟨_, rfl, ?_⟩; have n0_ := Aside0.mk (Kd.R_below (by (with_reducible repeat (first | apply Kd.R_alloc | apply Kd.R_drewN | apply Kd.R_drew)); exact HO227.out) hb); have n1_ := Aside0.mk (blk_below (g := gb229) (o := .cells #[.int .i64 ((rd_T34 t225 (ji7)).f0), .int .i64 ((rd_T34 t225 (ji7)).f1), .int .i64 ((rd_T34 t225 (ji7)).f2)] 34 (0, 0)) (by (with_reducible repeat (first | refine blk_drewN ?_ _ | refine blk_drew ?_ | refine blk_alloc ?_ _)); exact BK229.out) hb); have n2_ := Aside0.mk (below_step (by repeat (first | (with_reducible first | exact HB.out | apply below_alloc | apply pw_below_drewN | apply below_drew1 | refine below_set ?_ GE229.out) | exact HB.out)) hb); clear HO227; clear BK229; clear HB; have HO227 := n0_; have BK229 := n1_; have HB := n2_; clear n0_ n1_ n2_; (try clear hb); (try clear hb2); (try clear hk); (try clear hi); have hcz21_0 : w20.cell? ⟨gb229, 0, none⟩ = some (.int .i64 ((rd_T34 t225 (ji7)).f0)) := (blk_cell BK229.out 0).trans rfl; have hcz21_1 : w20.cell? ⟨gb229, 1, none⟩ = some (.int .i64 ((rd_T34 t225 (ji7)).f1)) := (blk_cell BK229.out 1).trans rfl; have hcz21_2 : w20.cell? ⟨gb229, 2, none⟩ = some (.int .i64 ((rd_T34 t225 (ji7)).f2)) := (blk_cell BK229.out 2).trans rfl; have hfz21_0 := blk_frozen BK229.out 0; have hfz21_1 := blk_frozen BK229.out 1; have hfz21_2 := blk_frozen BK229.out 2) | ((with_reducible refine gate_callee (f := 13) rfl ?_); refine goesL_ (some 46) rfl rfl Try.func13 (by kernel_rfl) rfl #[.int .i64 ((rd_T34 t225 (ji7)).f0), .int .i64 t232] rfl (by (try simp only [List.map_toArray, List.map_cons, List.map_nil]); first | done | (simp only [hji7]; rfl) | rfl | (simp only [List.length_drop, List.length_take]; rfl)) ?_; (with_reducible refine (csets_Get.calls k ((rd_T34 t225 (ji7)).f0) t232 t234 t235 _ A12.out).mono ?_); rintro e w22 ⟨rfl, hb⟩; refine ⟨_, rfl, ?_⟩; have n0_ := Aside0.mk (Kd.R_below (by (with_reducible repeat (first | apply Kd.R_alloc | apply Kd.R_drewN | apply Kd.R_drew)); exact HO227.out) hb); have n1_ := Aside0.mk (blk_below (g := gb229) (o := .cells #[.int .i64 ((rd_T34 t225 (ji7)).f0), .int .i64 ((rd_T34 t225 (ji7)).f1), .int .i64 ((rd_T34 t225 (ji7)).f2)] 34 (0, 0)) (by (with_reducible repeat (first | refine blk_drewN ?_ _ | refine blk_drew ?_ | refine blk_alloc ?_ _)); exact BK229.out) hb); have n2_ := Aside0.mk (below_step (by repeat (first | (with_reducible first | exact HB.out | apply below_alloc | apply pw_below_drewN | apply below_drew1 | refine below_set ?_ GE229.out) | exact HB.out)) hb); clear HO227; clear BK229; clear HB; have HO227 := n0_; have BK229 := n1_; have HB := n2_; clear n0_ n1_ n2_; (try clear hb); (try clear hb2); (try clear hk); (try clear hi); have hcz23_0 : w22.cell? ⟨gb229, 0, none⟩ = some (.int .i64 ((rd_T34 t225 (ji7)).f0)) := (blk_cell BK229.out 0).trans rfl; have hcz23_1 : w22.cell? ⟨gb229, 1, none⟩ = some (.int .i64 ((rd_T34 t225 (ji7)).f1)) := (blk_cell BK229.out 1).trans rfl; have hcz23_2 : w22.cell? ⟨gb229, 2, none⟩ = some (.int .i64 ((rd_T34 t225 (ji7)).f2)) := (blk_cell BK229.out 2).trans rfl; have hfz23_0 := blk_frozen BK229.out 0; have hfz23_1 := blk_frozen BK229.out 1; have hfz23_2 := blk_frozen BK229.out 2))
     (try simp only [Act.put, List.setIfInBounds_toArray, List.set_cons_zero, List.set_cons_succ])
     go_cut [11, 76] (fun v11 v76 wc => ∃ (kq : Nat) (x76_12 : Bool), v11 = .bool (decide (((rd_T34 t225 (ji7)).f1) > 255)) ∧ v76 = .bool x76_12 ∧ Aside0 (sobriquetlaw16_CsetsPlaces.j0 kq t230 t231 t233 t234 t235 (decide (((rd_T34 t225 (ji7)).f1) > 255)) x76_12 ((rd_T34 t225 (ji7)).f0) ((rd_T34 t225 (ji7)).f1) ((rd_T34 t225 (ji7)).f2) = some r) ∧ Aside0 (kq ≤ k) ∧ Aside0 (wc.heap[gb229]? = some (.cells #[.int .i64 ((rd_T34 t225 (ji7)).f0), .int .i64 ((rd_T34 t225 (ji7)).f1), .int .i64 ((rd_T34 t225 (ji7)).f2)] 34 (0, 0))) ∧ Aside0 (Below w.heap.size w wc))
     case first =>
      have H := HC13.out
      clear HC13
      by_cases c24 : ((rd_T34 t225 (ji7)).f1) > 255
      ·rw [if_pos c24] at H
       have c24b0 : decide (255 < ((rd_T34 t225 (ji7)).f1)) = true := decide_eq_true c24
       clear c24
       (first | rw [c24b0] | (simp only [i64_w, i32_w]; rw [c24b0]) | skip)
       by_cases c25 : (wrap64 (Int.tdiv ((rd_T34 t225 (ji7)).f1) 256)) < 33
       ·rw [if_pos c25] at H
        have c25b0 : decide ((wrap64 (Int.tdiv ((rd_T34 t225 (ji7)).f1) 256)) < 33) = true := decide_eq_true c25
        clear c25
        have H' := Aside0.mk H
        clear H
        have hcz26_0 : w22.cell? ⟨gb229, 0, none⟩ = some (.int .i64 ((rd_T34 t225 (ji7)).f0)) := (blk_cell BK229.out 0).trans rfl
        have hcz26_1 : w22.cell? ⟨gb229, 1, none⟩ = some (.int .i64 ((rd_T34 t225 (ji7)).f1)) := (blk_cell BK229.out 1).trans rfl
        have hcz26_2 : w22.cell? ⟨gb229, 2, none⟩ = some (.int .i64 ((rd_T34 t225 (ji7)).f2)) := (blk_cell BK229.out 2).trans rfl
        have hfz26_0 := blk_frozen BK229.out 0
        have hfz26_1 := blk_frozen BK229.out 1
        have hfz26_2 := blk_frozen BK229.out 2
        go_wp2
        go_meet
        case rel => exact ⟨_, (true), (by first | rfl | (simp; done) | (simp [*]; done)), (by first | rfl | (simp; done) | (simp [*]; done)), H', ⟨by first | omega | exact Nat.le_refl _⟩, ⟨by (with_reducible repeat (first | refine blk_drewN ?_ _ | refine blk_drew ?_ | refine blk_alloc ?_ _)); exact BK229.out⟩, ⟨by repeat (first | (with_reducible first | exact HB.out | apply below_alloc | apply pw_below_drewN | apply below_drew1 | refine below_set ?_ GE229.out) | exact HB.out)⟩⟩
       ·rw [if_neg c25] at H
        have c25b0 : decide ((wrap64 (Int.tdiv ((rd_T34 t225 (ji7)).f1) 256)) < 33) = false := decide_eq_false c25
        clear c25
        by_cases c27 : (wrap64 (Int.tdiv ((rd_T34 t225 (ji7)).f1) 256)) > 126
        ·rw [if_pos c27] at H
         have c27b0 : decide (126 < (wrap64 (Int.tdiv ((rd_T34 t225 (ji7)).f1) 256))) = true := decide_eq_true c27
         clear c27
         have H' := Aside0.mk H
         clear H
         have hcz28_0 : w22.cell? ⟨gb229, 0, none⟩ = some (.int .i64 ((rd_T34 t225 (ji7)).f0)) := (blk_cell BK229.out 0).trans rfl
         have hcz28_1 : w22.cell? ⟨gb229, 1, none⟩ = some (.int .i64 ((rd_T34 t225 (ji7)).f1)) := (blk_cell BK229.out 1).trans rfl
         have hcz28_2 : w22.cell? ⟨gb229, 2, none⟩ = some (.int .i64 ((rd_T34 t225 (ji7)).f2)) := (blk_cell BK229.out 2).trans rfl
         have hfz28_0 := blk_frozen BK229.out 0
         have hfz28_1 := blk_frozen BK229.out 1
         have hfz28_2 := blk_frozen BK229.out 2
         go_wp2
         go_meet
         case rel => exact ⟨_, (true), (by first | rfl | (simp; done) | (simp [*]; done)), (by first | rfl | (simp; done) | (simp [*]; done)), H', ⟨by first | omega | exact Nat.le_refl _⟩, ⟨by (with_reducible repeat (first | refine blk_drewN ?_ _ | refine blk_drew ?_ | refine blk_alloc ?_ _)); exact BK229.out⟩, ⟨by repeat (first | (with_reducible first | exact HB.out | apply below_alloc | apply pw_below_drewN | apply below_drew1 | refine below_set ?_ GE229.out) | exact HB.out)⟩⟩
        ·rw [if_neg c27] at H
         have c27b0 : decide (126 < (wrap64 (Int.tdiv ((rd_T34 t225 (ji7)).f1) 256))) = false := decide_eq_false c27
         clear c27
         by_cases c29 : (Int.tmod ((rd_T34 t225 (ji7)).f1) 256) < 33
         ·rw [if_pos c29] at H
          have c29b0 : decide ((Int.tmod ((rd_T34 t225 (ji7)).f1) 256) < 33) = true := decide_eq_true c29
          clear c29
          have H' := Aside0.mk H
          clear H
          have hcz30_0 : w22.cell? ⟨gb229, 0, none⟩ = some (.int .i64 ((rd_T34 t225 (ji7)).f0)) := (blk_cell BK229.out 0).trans rfl
          have hcz30_1 : w22.cell? ⟨gb229, 1, none⟩ = some (.int .i64 ((rd_T34 t225 (ji7)).f1)) := (blk_cell BK229.out 1).trans rfl
          have hcz30_2 : w22.cell? ⟨gb229, 2, none⟩ = some (.int .i64 ((rd_T34 t225 (ji7)).f2)) := (blk_cell BK229.out 2).trans rfl
          have hfz30_0 := blk_frozen BK229.out 0
          have hfz30_1 := blk_frozen BK229.out 1
          have hfz30_2 := blk_frozen BK229.out 2
          go_wp2
          go_meet
          case rel => exact ⟨_, (true), (by first | rfl | (simp; done) | (simp [*]; done)), (by first | rfl | (simp; done) | (simp [*]; done)), H', ⟨by first | omega | exact Nat.le_refl _⟩, ⟨by (with_reducible repeat (first | refine blk_drewN ?_ _ | refine blk_drew ?_ | refine blk_alloc ?_ _)); exact BK229.out⟩, ⟨by repeat (first | (with_reducible first | exact HB.out | apply below_alloc | apply pw_below_drewN | apply below_drew1 | refine below_set ?_ GE229.out) | exact HB.out)⟩⟩
         ·rw [if_neg c29] at H
          have c29b0 : decide ((Int.tmod ((rd_T34 t225 (ji7)).f1) 256) < 33) = false := decide_eq_false c29
          clear c29
          have H' := Aside0.mk H
          clear H
          have hcz31_0 : w22.cell? ⟨gb229, 0, none⟩ = some (.int .i64 ((rd_T34 t225 (ji7)).f0)) := (blk_cell BK229.out 0).trans rfl
          have hcz31_1 : w22.cell? ⟨gb229, 1, none⟩ = some (.int .i64 ((rd_T34 t225 (ji7)).f1)) := (blk_cell BK229.out 1).trans rfl
          have hcz31_2 : w22.cell? ⟨gb229, 2, none⟩ = some (.int .i64 ((rd_T34 t225 (ji7)).f2)) := (blk_cell BK229.out 2).trans rfl
          have hfz31_0 := blk_frozen BK229.out 0
          have hfz31_1 := blk_frozen BK229.out 1
          have hfz31_2 := blk_frozen BK229.out 2
          go_wp2
          go_meet
          case rel => exact ⟨_, (decide ((Int.tmod ((rd_T34 t225 (ji7)).f1) 256) > 126)), (by first | rfl | (simp; done) | (simp [*]; done)), (by first | rfl | (simp; done) | (simp only [← hji7] <;> (first | rfl | simp)) | (simp [*]; done)), H', ⟨by first | omega | exact Nat.le_refl _⟩, ⟨by (with_reducible repeat (first | refine blk_drewN ?_ _ | refine blk_drew ?_ | refine blk_alloc ?_ _)); exact BK229.out⟩, ⟨by repeat (first | (with_reducible first | exact HB.out | apply below_alloc | apply pw_below_drewN | apply below_drew1 | refine below_set ?_ GE229.out) | exact HB.out)⟩⟩
      ·rw [if_neg c24] at H
       have c24b0 : decide (255 < ((rd_T34 t225 (ji7)).f1)) = false := decide_eq_false c24
       clear c24
       (first | rw [c24b0] | (simp only [i64_w, i32_w]; rw [c24b0]) | skip)
       by_cases c32 : (Int.tmod ((rd_T34 t225 (ji7)).f1) 256) < 33
       ·rw [if_pos c32] at H
        have c32b0 : decide ((Int.tmod ((rd_T34 t225 (ji7)).f1) 256) < 33) = true := decide_eq_true c32
        clear c32
        have H' := Aside0.mk H
        clear H
        have hcz33_0 : w22.cell? ⟨gb229, 0, none⟩ = some (.int .i64 ((rd_T34 t225 (ji7)).f0)) := (blk_cell BK229.out 0).trans rfl
        have hcz33_1 : w22.cell? ⟨gb229, 1, none⟩ = some (.int .i64 ((rd_T34 t225 (ji7)).f1)) := (blk_cell BK229.out 1).trans rfl
        have hcz33_2 : w22.cell? ⟨gb229, 2, none⟩ = some (.int .i64 ((rd_T34 t225 (ji7)).f2)) := (blk_cell BK229.out 2).trans rfl
        have hfz33_0 := blk_frozen BK229.out 0
        have hfz33_1 := blk_frozen BK229.out 1
        have hfz33_2 := blk_frozen BK229.out 2
        go_wp2
        go_meet
        case rel => exact ⟨_, (true), (by first | rfl | (simp; done) | (simp [*]; done)), (by first | rfl | (simp; done) | (simp [*]; done)), H', ⟨by first | omega | exact Nat.le_refl _⟩, ⟨by (with_reducible repeat (first | refine blk_drewN ?_ _ | refine blk_drew ?_ | refine blk_alloc ?_ _)); exact BK229.out⟩, ⟨by repeat (first | (with_reducible first | exact HB.out | apply below_alloc | apply pw_below_drewN | apply below_drew1 | refine below_set ?_ GE229.out) | exact HB.out)⟩⟩
       ·rw [if_neg c32] at H
        have c32b0 : decide ((Int.tmod ((rd_T34 t225 (ji7)).f1) 256) < 33) = false := decide_eq_false c32
        clear c32
        have H' := Aside0.mk H
        clear H
        have hcz34_0 : w22.cell? ⟨gb229, 0, none⟩ = some (.int .i64 ((rd_T34 t225 (ji7)).f0)) := (blk_cell BK229.out 0).trans rfl
        have hcz34_1 : w22.cell? ⟨gb229, 1, none⟩ = some (.int .i64 ((rd_T34 t225 (ji7)).f1)) := (blk_cell BK229.out 1).trans rfl
        have hcz34_2 : w22.cell? ⟨gb229, 2, none⟩ = some (.int .i64 ((rd_T34 t225 (ji7)).f2)) := (blk_cell BK229.out 2).trans rfl
        have hfz34_0 := blk_frozen BK229.out 0
        have hfz34_1 := blk_frozen BK229.out 1
        have hfz34_2 := blk_frozen BK229.out 2
        go_wp2
        go_meet
        case rel => exact ⟨_, (decide ((Int.tmod ((rd_T34 t225 (ji7)).f1) 256) > 126)), (by first | rfl | (simp; done) | (simp [*]; done)), (by first | rfl | (simp; done) | (simp only [← hji7] <;> (first | rfl | simp)) | (simp [*]; done)), H', ⟨by first | omega | exact Nat.le_refl _⟩, ⟨by (with_reducible repeat (first | refine blk_drewN ?_ _ | refine blk_drew ?_ | refine blk_alloc ?_ _)); exact BK229.out⟩, ⟨by repeat (first | (with_reducible first | exact HB.out | apply below_alloc | apply pw_below_drewN | apply below_drew1 | refine below_set ?_ GE229.out) | exact HB.out)⟩⟩
     case rest =>
      clear HC13
      try clear c1
      try clear c2
      try clear p2
      try clear q2
      try clear hx2
      try clear c3
      try clear c3b0
      try clear c3b1
      try clear c3b2
      try clear c4
      try clear c6
      try clear c6b0
      try clear c6b1
      try clear p6
      try clear c8
      try clear c8b0
      try clear c9
      try clear c9b0
      try clear c12
      try clear c13
      try clear c14
      try clear p22
      try clear q22
      try clear hx22
      try clear c24
      try clear c24b0
      try clear c25
      try clear c25b0
      try clear c27
      try clear c27b0
      try clear c29
      try clear c29b0
      try clear c32
      try clear c32b0
      try clear hcz17_0
      try clear hcz17_1
      try clear hcz17_2
      try clear hcz19_0
      try clear hcz19_1
      try clear hcz19_2
      try clear hcz21_0
      try clear hcz21_1
      try clear hcz21_2
      try clear hcz23_0
      try clear hcz23_1
      try clear hcz23_2
      try clear hcz26_0
      try clear hcz26_1
      try clear hcz26_2
      try clear hcz28_0
      try clear hcz28_1
      try clear hcz28_2
      try clear hcz30_0
      try clear hcz30_1
      try clear hcz30_2
      try clear hcz31_0
      try clear hcz31_1
      try clear hcz31_2
      try clear hcz33_0
      try clear hcz33_1
      try clear hcz33_2
      try clear hcz34_0
      try clear hcz34_1
      try clear hcz34_2
      try clear hfz17_0
      try clear hfz17_1
      try clear hfz17_2
      try clear hfz19_0
      try clear hfz19_1
      try clear hfz19_2
      try clear hfz21_0
      try clear hfz21_1
      try clear hfz21_2
      try clear hfz23_0
      try clear hfz23_1
      try clear hfz23_2
      try clear hfz26_0
      try clear hfz26_1
      try clear hfz26_2
      try clear hfz28_0
      try clear hfz28_1
      try clear hfz28_2
      try clear hfz30_0
      try clear hfz30_1
      try clear hfz30_2
      try clear hfz31_0
      try clear hfz31_1
      try clear hfz31_2
      try clear hfz33_0
      try clear hfz33_1
      try clear hfz33_2
      try clear hfz34_0
      try clear hfz34_1
      try clear hfz34_2
      try clear hx228_0
      try clear hx228_1
      try clear hx228_2
      try clear p228
      try clear q228
      obtain ⟨kq, x76_12, rfl, rfl, HA, HJ12, BK229, HB⟩ := hcut
      cases kq with
      | zero => exact absurd HA.out (by simp [sobriquetlaw16_CsetsPlaces.j0])
      | succ kj12 =>
       have H := HA.out
       clear HA
       simp only [sobriquetlaw16_CsetsPlaces.j0] at H
       by_cases c35 : x76_12 = true
       ·subst c35
        have H1 : (some false) = some r := by rw [if_pos rfl] at H; exact H
        clear H
        have H := H1
        clear H1
        obtain rfl := Option.some.inj H
        go_wp2
        go_ret
        exact ⟨by first | rfl | (simp [errW_none, errW_some] <;> rfl) | (simp only [← hji7]; first | rfl | (simp [errW_none, errW_some] <;> rfl)) | (simp [*, errW_none, errW_some] <;> rfl), by repeat (first | (with_reducible first | exact HB.out | apply below_alloc | apply pw_below_drewN | apply below_drew1 | refine below_set ?_ GE229.out) | exact HB.out)⟩
       ·replace c35 := Bool.eq_false_iff.mpr c35
        subst c35
        have H1 : (if t231 = true then (if t230 = ((rd_T34 t225 (ji7)).f2) then (if t233 = true then (if t235 = true then (if t234 = t230 then ((csets_Wide.f ((rd_T34 t225 (ji7)).f0)).bind fun t236 => (if (t236 == (decide (((rd_T34 t225 (ji7)).f1) > 255))) = true then ((ucd_Scalar.f t230).bind fun t237 => (if t237 = true then ((sobriquetlaw16_wakes.f kj12).bind fun t238 => (some t238)) else (some false))) else (some false))) else (some false)) else (some false)) else (some false)) else (some false)) else (some false)) = some r := by rw [if_neg (show ¬ (false = true) by decide)] at H; exact H
        clear H
        have H := H1
        clear H1
        by_cases c36 : t231 = true
        ·subst c36
         have H1 : (if t230 = ((rd_T34 t225 (ji7)).f2) then (if t233 = true then (if t235 = true then (if t234 = t230 then ((csets_Wide.f ((rd_T34 t225 (ji7)).f0)).bind fun t236 => (if (t236 == (decide (((rd_T34 t225 (ji7)).f1) > 255))) = true then ((ucd_Scalar.f t230).bind fun t237 => (if t237 = true then ((sobriquetlaw16_wakes.f kj12).bind fun t238 => (some t238)) else (some false))) else (some false))) else (some false)) else (some false)) else (some false)) else (some false)) = some r := by rw [if_pos rfl] at H; exact H
         clear H
         have H := H1
         clear H1
         by_cases c37 : t230 = ((rd_T34 t225 (ji7)).f2)
         ·rw [if_pos c37] at H
          have c37b0 : (t230 == ((rd_T34 t225 (ji7)).f2)) = true := beq_iff_eq.mpr c37
          have c37b1 : (t230 != ((rd_T34 t225 (ji7)).f2)) = false := bne_eq_false_iff_eq.mpr c37
          clear c37
          by_cases c38 : t233 = true
          ·subst c38
           have H1 : (if t235 = true then (if t234 = t230 then ((csets_Wide.f ((rd_T34 t225 (ji7)).f0)).bind fun t236 => (if (t236 == (decide (((rd_T34 t225 (ji7)).f1) > 255))) = true then ((ucd_Scalar.f t230).bind fun t237 => (if t237 = true then ((sobriquetlaw16_wakes.f kj12).bind fun t238 => (some t238)) else (some false))) else (some false))) else (some false)) else (some false)) = some r := by rw [if_pos rfl] at H; exact H
           clear H
           have H := H1
           clear H1
           by_cases c39 : t235 = true
           ·subst c39
            have H1 : (if t234 = t230 then ((csets_Wide.f ((rd_T34 t225 (ji7)).f0)).bind fun t236 => (if (t236 == (decide (((rd_T34 t225 (ji7)).f1) > 255))) = true then ((ucd_Scalar.f t230).bind fun t237 => (if t237 = true then ((sobriquetlaw16_wakes.f kj12).bind fun t238 => (some t238)) else (some false))) else (some false))) else (some false)) = some r := by rw [if_pos rfl] at H; exact H
            clear H
            have H := H1
            clear H1
            by_cases c40 : t234 = t230
            ·rw [if_pos c40] at H
             have c40b0 : (t234 == t230) = true := beq_iff_eq.mpr c40
             have c40b1 : (t234 != t230) = false := bne_eq_false_iff_eq.mpr c40
             clear c40
             replace H := Option.bind_eq_some_iff.mp H
             obtain ⟨t236, A410, H⟩ := H
             replace H : (if (t236 == (decide (((rd_T34 t225 (ji7)).f1) > 255))) = true then ((ucd_Scalar.f t230).bind fun t237 => (if t237 = true then ((sobriquetlaw16_wakes.f kj12).bind fun t238 => (some t238)) else (some false))) else (some false)) = some r := H
             have A41 := Aside0.mk A410
             clear A410
             by_cases c42 : (t236 == (decide (((rd_T34 t225 (ji7)).f1) > 255))) = true
             ·rw [if_pos c42] at H
              have c42b0 : (t236 == (decide (((rd_T34 t225 (ji7)).f1) > 255))) = true := c42
              (try (have c42b1 : decide (t236 = (decide (((rd_T34 t225 (ji7)).f1) > 255))) = true := by simpa using c42))
              (try (have c42b2 : (t236 == (decide (((rd_T34 t225 (ji7)).f1) > 255))) = true := by simpa using c42))
              clear c42
              replace H := Option.bind_eq_some_iff.mp H
              obtain ⟨t237, A430, H⟩ := H
              replace H : (if t237 = true then ((sobriquetlaw16_wakes.f kj12).bind fun t238 => (some t238)) else (some false)) = some r := H
              have A43 := Aside0.mk A430
              clear A430
              by_cases c44 : t237 = true
              ·subst c44
               have H1 : ((sobriquetlaw16_wakes.f kj12).bind fun t238 => (some t238)) = some r := by rw [if_pos rfl] at H; exact H
               clear H
               have H := H1
               clear H1
               replace H := Option.bind_eq_some_iff.mp H
               obtain ⟨t238, A450, H⟩ := H
               replace H : (some t238) = some r := H
               have A45 := Aside0.mk A450
               clear A450
               obtain rfl := Option.some.inj H
               have hcz46_0 : wc.cell? ⟨gb229, 0, none⟩ = some (.int .i64 ((rd_T34 t225 (ji7)).f0)) := (blk_cell BK229.out 0).trans rfl
               have hcz46_1 : wc.cell? ⟨gb229, 1, none⟩ = some (.int .i64 ((rd_T34 t225 (ji7)).f1)) := (blk_cell BK229.out 1).trans rfl
               have hcz46_2 : wc.cell? ⟨gb229, 2, none⟩ = some (.int .i64 ((rd_T34 t225 (ji7)).f2)) := (blk_cell BK229.out 2).trans rfl
               have hfz46_0 := blk_frozen BK229.out 0
               have hfz46_1 := blk_frozen BK229.out 1
               have hfz46_2 := blk_frozen BK229.out 2
               go_wp2_with (first | (go_at_call 10; (with_reducible refine (csets_Wide.calls ((rd_T34 t225 (ji7)).f0) t236 _ A41.out).mono ?_); rintro e w' ⟨rfl, ⟨nd, rfl⟩⟩) | (go_at_call 15; (with_reducible refine (ucd_Scalar.calls t230 true _ A43.out).mono ?_); rintro e w' ⟨rfl, ⟨nd, rfl⟩⟩) | (go_at_call 11; (with_reducible refine (sobriquetlaw16_wakes.calls kj12  t238 _ A45.out).mono ?_); rintro e w47 ⟨rfl, hb⟩; have n0_ := Aside0.mk (blk_below (g := gb229) (o := .cells #[.int .i64 ((rd_T34 t225 (ji7)).f0), .int .i64 ((rd_T34 t225 (ji7)).f1), .int .i64 ((rd_T34 t225 (ji7)).f2)] 34 (0, 0)) (by (with_reducible repeat (first | refine blk_drewN ?_ _ | refine blk_drew ?_ | refine blk_alloc ?_ _)); exact BK229.out) hb); have n1_ := Aside0.mk (below_step (by repeat (first | (with_reducible first | exact HB.out | apply below_alloc | apply pw_below_drewN | apply below_drew1 | refine below_set ?_ GE229.out) | exact HB.out)) hb); clear BK229; clear HB; have BK229 := n0_; have HB := n1_; clear n0_ n1_; (try clear hb); (try clear hb2); (try clear hk); (try clear hi)))
               go_ret
               exact ⟨by first | rfl | (simp [errW_none, errW_some] <;> rfl) | (simp only [← hji7]; first | rfl | (simp [errW_none, errW_some] <;> rfl)) | (simp [*, errW_none, errW_some] <;> rfl), by repeat (first | (with_reducible first | exact HB.out | apply below_alloc | apply pw_below_drewN | apply below_drew1 | refine below_set ?_ GE229.out) | exact HB.out)⟩
              ·replace c44 := Bool.eq_false_iff.mpr c44
               subst c44
               have H1 : (some false) = some r := by rw [if_neg (show ¬ (false = true) by decide)] at H; exact H
               clear H
               have H := H1
               clear H1
               obtain rfl := Option.some.inj H
               have hcz48_0 : wc.cell? ⟨gb229, 0, none⟩ = some (.int .i64 ((rd_T34 t225 (ji7)).f0)) := (blk_cell BK229.out 0).trans rfl
               have hcz48_1 : wc.cell? ⟨gb229, 1, none⟩ = some (.int .i64 ((rd_T34 t225 (ji7)).f1)) := (blk_cell BK229.out 1).trans rfl
               have hcz48_2 : wc.cell? ⟨gb229, 2, none⟩ = some (.int .i64 ((rd_T34 t225 (ji7)).f2)) := (blk_cell BK229.out 2).trans rfl
               have hfz48_0 := blk_frozen BK229.out 0
               have hfz48_1 := blk_frozen BK229.out 1
               have hfz48_2 := blk_frozen BK229.out 2
               go_wp2_with (first | (go_at_call 10; (with_reducible refine (csets_Wide.calls ((rd_T34 t225 (ji7)).f0) t236 _ A41.out).mono ?_); rintro e w' ⟨rfl, ⟨nd, rfl⟩⟩) | (go_at_call 15; (with_reducible refine (ucd_Scalar.calls t230 false _ A43.out).mono ?_); rintro e w' ⟨rfl, ⟨nd, rfl⟩⟩))
               go_ret
               exact ⟨by first | rfl | (simp [errW_none, errW_some] <;> rfl) | (simp only [← hji7]; first | rfl | (simp [errW_none, errW_some] <;> rfl)) | (simp [*, errW_none, errW_some] <;> rfl), by repeat (first | (with_reducible first | exact HB.out | apply below_alloc | apply pw_below_drewN | apply below_drew1 | refine below_set ?_ GE229.out) | exact HB.out)⟩
             ·rw [if_neg c42] at H
              have c42b0 : (t236 == (decide (((rd_T34 t225 (ji7)).f1) > 255))) = false := by simpa using c42
              (try (have c42b1 : decide (t236 = (decide (((rd_T34 t225 (ji7)).f1) > 255))) = false := by simpa using c42))
              (try (have c42b2 : (t236 == (decide (((rd_T34 t225 (ji7)).f1) > 255))) = false := by simpa using c42))
              (try (have c42b3 : ¬ (t236 = (decide (((rd_T34 t225 (ji7)).f1) > 255))) := by simpa using c42))
              clear c42
              obtain rfl := Option.some.inj H
              have hcz49_0 : wc.cell? ⟨gb229, 0, none⟩ = some (.int .i64 ((rd_T34 t225 (ji7)).f0)) := (blk_cell BK229.out 0).trans rfl
              have hcz49_1 : wc.cell? ⟨gb229, 1, none⟩ = some (.int .i64 ((rd_T34 t225 (ji7)).f1)) := (blk_cell BK229.out 1).trans rfl
              have hcz49_2 : wc.cell? ⟨gb229, 2, none⟩ = some (.int .i64 ((rd_T34 t225 (ji7)).f2)) := (blk_cell BK229.out 2).trans rfl
              have hfz49_0 := blk_frozen BK229.out 0
              have hfz49_1 := blk_frozen BK229.out 1
              have hfz49_2 := blk_frozen BK229.out 2
              go_wp2_with (first | (go_at_call 10; (with_reducible refine (csets_Wide.calls ((rd_T34 t225 (ji7)).f0) t236 _ A41.out).mono ?_); rintro e w' ⟨rfl, ⟨nd, rfl⟩⟩))
              go_ret
              exact ⟨by first | rfl | (simp [errW_none, errW_some] <;> rfl) | (simp only [← hji7]; first | rfl | (simp [errW_none, errW_some] <;> rfl)) | (simp [*, errW_none, errW_some] <;> rfl), by repeat (first | (with_reducible first | exact HB.out | apply below_alloc | apply pw_below_drewN | apply below_drew1 | refine below_set ?_ GE229.out) | exact HB.out)⟩
            ·rw [if_neg c40] at H
             have c40b0 : (t234 == t230) = false := beq_eq_false_iff_ne.mpr c40
             have c40b1 : (t234 != t230) = true := bne_iff_ne.mpr c40
             obtain rfl := Option.some.inj H
             have hcz50_0 : wc.cell? ⟨gb229, 0, none⟩ = some (.int .i64 ((rd_T34 t225 (ji7)).f0)) := (blk_cell BK229.out 0).trans rfl
             have hcz50_1 : wc.cell? ⟨gb229, 1, none⟩ = some (.int .i64 ((rd_T34 t225 (ji7)).f1)) := (blk_cell BK229.out 1).trans rfl
             have hcz50_2 : wc.cell? ⟨gb229, 2, none⟩ = some (.int .i64 ((rd_T34 t225 (ji7)).f2)) := (blk_cell BK229.out 2).trans rfl
             have hfz50_0 := blk_frozen BK229.out 0
             have hfz50_1 := blk_frozen BK229.out 1
             have hfz50_2 := blk_frozen BK229.out 2
             go_wp2
             go_ret
             exact ⟨by first | rfl | (simp [errW_none, errW_some] <;> rfl) | (simp only [← hji7]; first | rfl | (simp [errW_none, errW_some] <;> rfl)) | (simp [*, errW_none, errW_some] <;> rfl), by repeat (first | (with_reducible first | exact HB.out | apply below_alloc | apply pw_below_drewN | apply below_drew1 | refine below_set ?_ GE229.out) | exact HB.out)⟩
           ·replace c39 := Bool.eq_false_iff.mpr c39
            subst c39
            have H1 : (some false) = some r := by rw [if_neg (show ¬ (false = true) by decide)] at H; exact H
            clear H
            have H := H1
            clear H1
            obtain rfl := Option.some.inj H
            have hcz51_0 : wc.cell? ⟨gb229, 0, none⟩ = some (.int .i64 ((rd_T34 t225 (ji7)).f0)) := (blk_cell BK229.out 0).trans rfl
            have hcz51_1 : wc.cell? ⟨gb229, 1, none⟩ = some (.int .i64 ((rd_T34 t225 (ji7)).f1)) := (blk_cell BK229.out 1).trans rfl
            have hcz51_2 : wc.cell? ⟨gb229, 2, none⟩ = some (.int .i64 ((rd_T34 t225 (ji7)).f2)) := (blk_cell BK229.out 2).trans rfl
            have hfz51_0 := blk_frozen BK229.out 0
            have hfz51_1 := blk_frozen BK229.out 1
            have hfz51_2 := blk_frozen BK229.out 2
            go_wp2
            go_ret
            exact ⟨by first | rfl | (simp [errW_none, errW_some] <;> rfl) | (simp only [← hji7]; first | rfl | (simp [errW_none, errW_some] <;> rfl)) | (simp [*, errW_none, errW_some] <;> rfl), by repeat (first | (with_reducible first | exact HB.out | apply below_alloc | apply pw_below_drewN | apply below_drew1 | refine below_set ?_ GE229.out) | exact HB.out)⟩
          ·replace c38 := Bool.eq_false_iff.mpr c38
           subst c38
           have H1 : (some false) = some r := by rw [if_neg (show ¬ (false = true) by decide)] at H; exact H
           clear H
           have H := H1
           clear H1
           obtain rfl := Option.some.inj H
           have hcz52_0 : wc.cell? ⟨gb229, 0, none⟩ = some (.int .i64 ((rd_T34 t225 (ji7)).f0)) := (blk_cell BK229.out 0).trans rfl
           have hcz52_1 : wc.cell? ⟨gb229, 1, none⟩ = some (.int .i64 ((rd_T34 t225 (ji7)).f1)) := (blk_cell BK229.out 1).trans rfl
           have hcz52_2 : wc.cell? ⟨gb229, 2, none⟩ = some (.int .i64 ((rd_T34 t225 (ji7)).f2)) := (blk_cell BK229.out 2).trans rfl
           have hfz52_0 := blk_frozen BK229.out 0
           have hfz52_1 := blk_frozen BK229.out 1
           have hfz52_2 := blk_frozen BK229.out 2
           go_wp2
           go_ret
           exact ⟨by first | rfl | (simp [errW_none, errW_some] <;> rfl) | (simp only [← hji7]; first | rfl | (simp [errW_none, errW_some] <;> rfl)) | (simp [*, errW_none, errW_some] <;> rfl), by repeat (first | (with_reducible first | exact HB.out | apply below_alloc | apply pw_below_drewN | apply below_drew1 | refine below_set ?_ GE229.out) | exact HB.out)⟩
         ·rw [if_neg c37] at H
          have c37b0 : (t230 == ((rd_T34 t225 (ji7)).f2)) = false := beq_eq_false_iff_ne.mpr c37
          have c37b1 : (t230 != ((rd_T34 t225 (ji7)).f2)) = true := bne_iff_ne.mpr c37
          obtain rfl := Option.some.inj H
          have hcz53_0 : wc.cell? ⟨gb229, 0, none⟩ = some (.int .i64 ((rd_T34 t225 (ji7)).f0)) := (blk_cell BK229.out 0).trans rfl
          have hcz53_1 : wc.cell? ⟨gb229, 1, none⟩ = some (.int .i64 ((rd_T34 t225 (ji7)).f1)) := (blk_cell BK229.out 1).trans rfl
          have hcz53_2 : wc.cell? ⟨gb229, 2, none⟩ = some (.int .i64 ((rd_T34 t225 (ji7)).f2)) := (blk_cell BK229.out 2).trans rfl
          have hfz53_0 := blk_frozen BK229.out 0
          have hfz53_1 := blk_frozen BK229.out 1
          have hfz53_2 := blk_frozen BK229.out 2
          go_wp2
          go_ret
          exact ⟨by first | rfl | (simp [errW_none, errW_some] <;> rfl) | (simp only [← hji7]; first | rfl | (simp [errW_none, errW_some] <;> rfl)) | (simp [*, errW_none, errW_some] <;> rfl), by repeat (first | (with_reducible first | exact HB.out | apply below_alloc | apply pw_below_drewN | apply below_drew1 | refine below_set ?_ GE229.out) | exact HB.out)⟩
        ·replace c36 := Bool.eq_false_iff.mpr c36
         subst c36
         have H1 : (some false) = some r := by rw [if_neg (show ¬ (false = true) by decide)] at H; exact H
         clear H
         have H := H1
         clear H1
         obtain rfl := Option.some.inj H
         go_wp2
         go_ret
         exact ⟨by first | rfl | (simp [errW_none, errW_some] <;> rfl) | (simp only [← hji7]; first | rfl | (simp [errW_none, errW_some] <;> rfl)) | (simp [*, errW_none, errW_some] <;> rfl), by repeat (first | (with_reducible first | exact HB.out | apply below_alloc | apply pw_below_drewN | apply below_drew1 | refine below_set ?_ GE229.out) | exact HB.out)⟩
    ·rw [if_neg c9] at H
     exact absurd H (by simp)
   ·rw [if_neg c8] at H
    exact absurd H (by simp)

/-- THE ONE PURE STATEMENT of sobriquetlaw16_CsetsPlaces: yours. -/
def sobriquetlaw16_CsetsPlaces.Pure : Prop := ∀ (a0 : Int), (Lit.int .i64 a0).wf = true → ∃ k, sobriquetlaw16_CsetsPlaces.f k a0 = some true
theorem sobriquetlaw16_CsetsPlaces.walk (P : sobriquetlaw16_CsetsPlaces.Pure) (a0 : Int) (w : World) (w0 : (Lit.int .i64 a0).wf = true) :
  Calls Try.prog 4 #[.int .i64 a0] w fun e w' => e = .returned (.bool true) ∧ Below w.heap.size w w' := by
 obtain ⟨k, h⟩ := P a0 w0
 refine (sobriquetlaw16_CsetsPlaces.calls k a0 true w h).mono ?_
 rintro e w' ⟨rfl, hd⟩
 exact ⟨rfl, hd⟩

/-! ### csets_Mark: function 17 -/
def csets_Mark.l0 : Nat → Int → List (S38) → Int → Int → Option (Int × Int × Bool)
 | 0, _, _, _, _ => none
 | k + 1, x0, x7, x8, x9 => if x9 < x8 then (if 0 ≤ x9 then (if x9 < (x7.length : Int) then (if ((rd_T38 x7 x9).f0) = x0 then (some ((rd_T38 x7 x9).f1, (rd_T38 x7 x9).f2, true)) else (csets_Mark.l0 k x0 x7 x8 (wrap64 (x9 + 1)))) else (none)) else (none)) else (some (0, 0, false))
def csets_Mark.f (k : Nat) (a0 : Int) : Option (Int × Int × Bool) := (api_Accents.f).bind fun t239 => (csets_Mark.l0 k a0 t239 (t239.length : Int) 0)
theorem csets_Mark.mono_l : ∀ k, (∀ y0 y1 y2 y3, LeO (csets_Mark.l0 k y0 y1 y2 y3) (csets_Mark.l0 (k + 1) y0 y1 y2 y3))
 | 0 => fun _ _ _ _ r h => by simp [csets_Mark.l0] at h
 | k + 1 => by
  have ih0 := csets_Mark.mono_l k
  ·intro y0 y1 y2 y3
   unfold csets_Mark.l0
   repeat' first
   | (with_reducible exact ih0 _ _ _ _)
   | (with_reducible exact LeO.refl _)
   | (with_reducible exact LeO.none _)
   | (with_reducible refine LeO.ite ?_ ?_)
   | (with_reducible refine LeO.bind ?_ (fun _ => ?_))
   | exact ih0 _ _ _ _
   | exact LeO.none _
   | refine LeO.ite ?_ ?_
   | refine LeO.bind ?_ (fun _ => ?_)
theorem csets_Mark.mono : ∀ a0 k, LeO (csets_Mark.f k a0) (csets_Mark.f (k + 1) a0) := by
 intro a0 k
 have ih0 := csets_Mark.mono_l k
 unfold csets_Mark.f
 repeat' first
   | (with_reducible exact ih0 _ _ _ _)
   | (with_reducible exact LeO.refl _)
   | (with_reducible exact LeO.none _)
   | (with_reducible refine LeO.ite ?_ ?_)
   | (with_reducible refine LeO.bind ?_ (fun _ => ?_))
   | exact ih0 _ _ _ _
   | exact LeO.none _
   | refine LeO.ite ?_ ?_
   | refine LeO.bind ?_ (fun _ => ?_)
set_option maxHeartbeats 8000000 in
set_option maxRecDepth 100000 in
theorem csets_Mark.calls (k : Nat) (a0 : Int) (r1 : Int) (r2 : Int) (r3 : Bool) (w : World) (h : csets_Mark.f k a0 = some (r1, r2, r3)) :
  Calls Try.prog 17 #[.int .i64 a0] w fun e w' => e = .returned (.tuple #[.int .i64 r1, .int .i64 r2, .bool r3]) ∧ Below w.heap.size w w' := by
 have hu38 := Try.underlying38
 have HB := Aside0.mk (Below.refl w.heap.size w)
 have H : ((api_Accents.f).bind fun t239 => (csets_Mark.l0 k a0 t239 (t239.length : Int) 0)) = some (r1, r2, r3) := h
 clear h
 replace H := Option.bind_eq_some_iff.mp H
 obtain ⟨t239, A20, H⟩ := H
 replace H : (csets_Mark.l0 k a0 t239 (t239.length : Int) 0) = some (r1, r2, r3) := H
 have A2 := Aside0.mk A20
 clear A20
 have H' := Aside0.mk H
 clear H
 go_enter Try.func17, Try.ntmps17
 go_wp2_with (first | (go_at_call 16; (with_reducible refine (api_Accents.calls  t239 _ A2.out).mono ?_); rintro e w3 ⟨v240, rfl, ho0, hb⟩; have n0_ := Aside0.mk (Kd.R_lower ho0 (below_size (by repeat (first | (with_reducible first | exact HB.out | apply below_alloc | apply pw_below_drewN | apply below_drew1) | exact HB.out)))); have n1_ := Aside0.mk (below_step (by repeat (first | (with_reducible first | exact HB.out | apply below_alloc | apply pw_below_drewN | apply below_drew1) | exact HB.out)) hb); clear HB; have HO241 := n0_; have HB := n1_; clear n0_ n1_; (try clear hb); (try clear hb2); (try clear hk); (try clear hi); (try clear ho0); obtain ⟨Ao4, co4, eo4⟩ := Kd.R_slice HO241.out; subst eo4))
 repeat (go_quiet (first | (go_at_call 16; (with_reducible refine (api_Accents.calls  t239 _ A2.out).mono ?_); rintro e w3 ⟨v240, rfl, ho0, hb⟩; have n0_ := Aside0.mk (Kd.R_lower ho0 (below_size (by repeat (first | (with_reducible first | exact HB.out | apply below_alloc | apply pw_below_drewN | apply below_drew1) | exact HB.out)))); have n1_ := Aside0.mk (below_step (by repeat (first | (with_reducible first | exact HB.out | apply below_alloc | apply pw_below_drewN | apply below_drew1) | exact HB.out)) hb); clear HB; have HO241 := n0_; have HB := n1_; clear n0_ n1_; (try clear hb); (try clear hb2); (try clear hk); (try clear hi); (try clear ho0); obtain ⟨Ao4, co4, eo4⟩ := Kd.R_slice HO241.out; subst eo4)); try go_wp2_with (first | (go_at_call 16; (with_reducible refine (api_Accents.calls  t239 _ A2.out).mono ?_); rintro e w3 ⟨v240, rfl, ho0, hb⟩; have n0_ := Aside0.mk (Kd.R_lower ho0 (below_size (by repeat (first | (with_reducible first | exact HB.out | apply below_alloc | apply pw_below_drewN | apply below_drew1) | exact HB.out)))); have n1_ := Aside0.mk (below_step (by repeat (first | (with_reducible first | exact HB.out | apply below_alloc | apply pw_below_drewN | apply below_drew1) | exact HB.out)) hb); clear HB; have HO241 := n0_; have HB := n1_; clear n0_ n1_; (try clear hb); (try clear hb2); (try clear hk); (try clear hi); (try clear ho0); obtain ⟨Ao4, co4, eo4⟩ := Kd.R_slice HO241.out; subst eo4)))
 go_loopg [9] k (fun kq v9 w' => ∃ (x9_1 : Int), v9 = .int .i64 x9_1 ∧ Aside0 (csets_Mark.l0 kq a0 t239 (t239.length : Int) x9_1 = some (r1, r2, r3)) ∧ Aside0 (kq ≤ k) ∧ Aside0 (Kd.R k38 38 w' w.heap.size (fun _ => True) (.slice Ao4 t239.length co4) t239) ∧ Aside0 (Below w.heap.size w w'))
 case atStart => exact ⟨(0), (by first | rfl | (simp; done) | (simp [*]; done)), H', ⟨Nat.le_refl _⟩, ⟨by (with_reducible repeat (first | apply Kd.R_alloc | apply Kd.R_drewN | apply Kd.R_drew)); exact HO241.out⟩, ⟨by repeat (first | (with_reducible first | exact HB.out | apply below_alloc | apply pw_below_drewN | apply below_drew1) | exact HB.out)⟩⟩
 case round =>
  clear H'
  try clear c1
  try clear p2
  obtain ⟨x9_1, rfl, HA, HK1, HO_7, HB⟩ := hrel
  cases gk with
  | zero => exact absurd HA.out (by simp [csets_Mark.l0])
  | succ k1 =>
   have H := HA.out
   clear HA
   simp only [csets_Mark.l0] at H
   by_cases c5 : x9_1 < (t239.length : Int)
   ·rw [if_pos c5] at H
    have c5b0 : decide (x9_1 < (t239.length : Int)) = true := decide_eq_true c5
    clear c5
    by_cases c6 : 0 ≤ x9_1
    ·rw [if_pos c6] at H
     have c6b0 : decide (0 ≤ x9_1) = true := decide_eq_true c6
     clear c6
     by_cases c7 : x9_1 < (t239.length : Int)
     ·rw [if_pos c7] at H
      have c7b0 : decide (x9_1 < (t239.length : Int)) = true := decide_eq_true c7
      clear c7
      by_cases c8 : ((rd_T38 t239 x9_1).f0) = a0
      ·rw [if_pos c8] at H
       have c8b0 : (((rd_T38 t239 x9_1).f0) == a0) = true := beq_iff_eq.mpr c8
       have c8b1 : (((rd_T38 t239 x9_1).f0) != a0) = false := bne_eq_false_iff_eq.mpr c8
       clear c8
       simp only [Option.some.injEq, Prod.mk.injEq] at H
       obtain ⟨rfl, rfl, rfl⟩ := H
       have p242 : 0 ≤ (x9_1 : Int) := of_decide_eq_true (by first | (with_reducible assumption) | assumption)
       have q242 : x9_1 < (t239.length : Int) := of_decide_eq_true (by first | (with_reducible assumption) | assumption)
       obtain ⟨ad242, e242, hx242_0, hx242_1, hx242_2⟩ := at_T38 (Kd.R_reads' HO_7.out).2.2 x9_1 p242 q242
       cases e242
       replace p242 := eq_true p242
       replace q242 := eq_true q242
       go_wp2_with (first | ((with_reducible refine gate_dst (N := 6) rfl ?_); refine box_event ?hg (N := 6) ?hd (cs := #[.int .i64 0, .int .i64 0, .int .i64 0]) (t := 38) ?hr ?_; (case hd => rfl); (case hg => rfl); (case hr => first | (go_simp; done) | (go_simp; rfl)); intro gb243 hg w9 hbox hb; have n0_ := Aside0.mk (Kd.R_below (Kd.R_elderB (by (with_reducible repeat (first | apply Kd.R_alloc | apply Kd.R_drewN | apply Kd.R_drew)); exact HO_7.out) gb243 (Nat.le_of_eq hg.symm)) hb); have n1_ := Aside0.mk (below_step (by repeat (first | (with_reducible first | exact HB.out | apply below_alloc | apply pw_below_drewN | apply below_drew1) | exact HB.out)) hb); have n2_ := Aside0.mk (hbox); have n3_ := Aside0.mk ((by rw [hg]; exact (below_size (by repeat (first | (with_reducible first | exact HB.out | apply below_alloc | apply pw_below_drewN | apply below_drew1) | exact HB.out))) : w.heap.size ≤ gb243)); have n4_ := Aside0.mk ((by rw [hg]; exact (below_size (by repeat (first | (with_reducible first | exact HB.out | apply below_alloc | apply pw_below_drewN | apply below_drew1) | exact HB.out))) : w.heap.size ≤ gb243)); clear HO_7; clear HB; have HO_7 := n0_; have HB := n1_; have BK243 := n2_; have GW243 := n3_; have GE243 := n4_; clear n0_ n1_ n2_ n3_ n4_; clear hb hbox hg; have hcz10_0 : w9.cell? ⟨gb243, 0, none⟩ = some (.int .i64 0) := (blk_cell BK243.out 0).trans rfl; have hcz10_1 : w9.cell? ⟨gb243, 1, none⟩ = some (.int .i64 0) := (blk_cell BK243.out 1).trans rfl; have hcz10_2 : w9.cell? ⟨gb243, 2, none⟩ = some (.int .i64 0) := (blk_cell BK243.out 2).trans rfl; have hfz10_0 := blk_frozen BK243.out 0; have hfz10_1 := blk_frozen BK243.out 1; have hfz10_2 := blk_frozen BK243.out 2))
       repeat (go_quiet (first | ((with_reducible refine gate_dst (N := 6) rfl ?_); refine box_event ?hg (N := 6) ?hd (cs := #[.int .i64 0, .int .i64 0, .int .i64 0]) (t := 38) ?hr ?_; (case hd => rfl); (case hg => rfl); (case hr => first | (go_simp; done) | (go_simp; rfl)); intro gb243 hg w9 hbox hb; have n0_ := Aside0.mk (Kd.R_below (Kd.R_elderB (by (with_reducible repeat (first | apply Kd.R_alloc | apply Kd.R_drewN | apply Kd.R_drew)); exact HO_7.out) gb243 (Nat.le_of_eq hg.symm)) hb); have n1_ := Aside0.mk (below_step (by repeat (first | (with_reducible first | exact HB.out | apply below_alloc | apply pw_below_drewN | apply below_drew1) | exact HB.out)) hb); have n2_ := Aside0.mk (hbox); have n3_ := Aside0.mk ((by rw [hg]; exact (below_size (by repeat (first | (with_reducible first | exact HB.out | apply below_alloc | apply pw_below_drewN | apply below_drew1) | exact HB.out))) : w.heap.size ≤ gb243)); have n4_ := Aside0.mk ((by rw [hg]; exact (below_size (by repeat (first | (with_reducible first | exact HB.out | apply below_alloc | apply pw_below_drewN | apply below_drew1) | exact HB.out))) : w.heap.size ≤ gb243)); clear HO_7; clear HB; have HO_7 := n0_; have HB := n1_; have BK243 := n2_; have GW243 := n3_; have GE243 := n4_; clear n0_ n1_ n2_ n3_ n4_; clear hb hbox hg; have hcz10_0 : w9.cell? ⟨gb243, 0, none⟩ = some (.int .i64 0) := (blk_cell BK243.out 0).trans rfl; have hcz10_1 : w9.cell? ⟨gb243, 1, none⟩ = some (.int .i64 0) := (blk_cell BK243.out 1).trans rfl; have hcz10_2 : w9.cell? ⟨gb243, 2, none⟩ = some (.int .i64 0) := (blk_cell BK243.out 2).trans rfl; have hfz10_0 := blk_frozen BK243.out 0; have hfz10_1 := blk_frozen BK243.out 1; have hfz10_2 := blk_frozen BK243.out 2)); try go_wp2_with (first | ((with_reducible refine gate_dst (N := 6) rfl ?_); refine box_event ?hg (N := 6) ?hd (cs := #[.int .i64 0, .int .i64 0, .int .i64 0]) (t := 38) ?hr ?_; (case hd => rfl); (case hg => rfl); (case hr => first | (go_simp; done) | (go_simp; rfl)); intro gb243 hg w9 hbox hb; have n0_ := Aside0.mk (Kd.R_below (Kd.R_elderB (by (with_reducible repeat (first | apply Kd.R_alloc | apply Kd.R_drewN | apply Kd.R_drew)); exact HO_7.out) gb243 (Nat.le_of_eq hg.symm)) hb); have n1_ := Aside0.mk (below_step (by repeat (first | (with_reducible first | exact HB.out | apply below_alloc | apply pw_below_drewN | apply below_drew1) | exact HB.out)) hb); have n2_ := Aside0.mk (hbox); have n3_ := Aside0.mk ((by rw [hg]; exact (below_size (by repeat (first | (with_reducible first | exact HB.out | apply below_alloc | apply pw_below_drewN | apply below_drew1) | exact HB.out))) : w.heap.size ≤ gb243)); have n4_ := Aside0.mk ((by rw [hg]; exact (below_size (by repeat (first | (with_reducible first | exact HB.out | apply below_alloc | apply pw_below_drewN | apply below_drew1) | exact HB.out))) : w.heap.size ≤ gb243)); clear HO_7; clear HB; have HO_7 := n0_; have HB := n1_; have BK243 := n2_; have GW243 := n3_; have GE243 := n4_; clear n0_ n1_ n2_ n3_ n4_; clear hb hbox hg; have hcz10_0 : w9.cell? ⟨gb243, 0, none⟩ = some (.int .i64 0) := (blk_cell BK243.out 0).trans rfl; have hcz10_1 : w9.cell? ⟨gb243, 1, none⟩ = some (.int .i64 0) := (blk_cell BK243.out 1).trans rfl; have hcz10_2 : w9.cell? ⟨gb243, 2, none⟩ = some (.int .i64 0) := (blk_cell BK243.out 2).trans rfl; have hfz10_0 := blk_frozen BK243.out 0; have hfz10_1 := blk_frozen BK243.out 1; have hfz10_2 := blk_frozen BK243.out 2)))
       go_ret3
       exact ⟨by first | rfl | (simp [errW_none, errW_some] <;> rfl) | (simp [*, errW_none, errW_some] <;> rfl), by repeat (first | (with_reducible first | exact HB.out | apply below_alloc | apply pw_below_drewN | apply below_drew1 | refine below_set ?_ GE243.out) | exact HB.out)⟩
      ·rw [if_neg c8] at H
       have c8b0 : (((rd_T38 t239 x9_1).f0) == a0) = false := beq_eq_false_iff_ne.mpr c8
       have c8b1 : (((rd_T38 t239 x9_1).f0) != a0) = true := bne_iff_ne.mpr c8
       have H' := Aside0.mk H
       clear H
       have p242 : 0 ≤ (x9_1 : Int) := of_decide_eq_true (by first | (with_reducible assumption) | assumption)
       have q242 : x9_1 < (t239.length : Int) := of_decide_eq_true (by first | (with_reducible assumption) | assumption)
       obtain ⟨ad242, e242, hx242_0, hx242_1, hx242_2⟩ := at_T38 (Kd.R_reads' HO_7.out).2.2 x9_1 p242 q242
       cases e242
       replace p242 := eq_true p242
       replace q242 := eq_true q242
       go_wp2_with (first | ((with_reducible refine gate_dst (N := 6) rfl ?_); refine box_event ?hg (N := 6) ?hd (cs := #[.int .i64 0, .int .i64 0, .int .i64 0]) (t := 38) ?hr ?_; (case hd => rfl); (case hg => rfl); (case hr => first | (go_simp; done) | (go_simp; rfl)); intro gb243 hg w11 hbox hb; have n0_ := Aside0.mk (Kd.R_below (Kd.R_elderB (by (with_reducible repeat (first | apply Kd.R_alloc | apply Kd.R_drewN | apply Kd.R_drew)); exact HO_7.out) gb243 (Nat.le_of_eq hg.symm)) hb); have n1_ := Aside0.mk (below_step (by repeat (first | (with_reducible first | exact HB.out | apply below_alloc | apply pw_below_drewN | apply below_drew1) | exact HB.out)) hb); have n2_ := Aside0.mk (hbox); have n3_ := Aside0.mk ((by rw [hg]; exact (below_size (by repeat (first | (with_reducible first | exact HB.out | apply below_alloc | apply pw_below_drewN | apply below_drew1) | exact HB.out))) : w.heap.size ≤ gb243)); have n4_ := Aside0.mk ((by rw [hg]; exact (below_size (by repeat (first | (with_reducible first | exact HB.out | apply below_alloc | apply pw_below_drewN | apply below_drew1) | exact HB.out))) : w.heap.size ≤ gb243)); clear HO_7; clear HB; have HO_7 := n0_; have HB := n1_; have BK243 := n2_; have GW243 := n3_; have GE243 := n4_; clear n0_ n1_ n2_ n3_ n4_; clear hb hbox hg; have hcz12_0 : w11.cell? ⟨gb243, 0, none⟩ = some (.int .i64 0) := (blk_cell BK243.out 0).trans rfl; have hcz12_1 : w11.cell? ⟨gb243, 1, none⟩ = some (.int .i64 0) := (blk_cell BK243.out 1).trans rfl; have hcz12_2 : w11.cell? ⟨gb243, 2, none⟩ = some (.int .i64 0) := (blk_cell BK243.out 2).trans rfl; have hfz12_0 := blk_frozen BK243.out 0; have hfz12_1 := blk_frozen BK243.out 1; have hfz12_2 := blk_frozen BK243.out 2))
       repeat (go_quiet (first | ((with_reducible refine gate_dst (N := 6) rfl ?_); refine box_event ?hg (N := 6) ?hd (cs := #[.int .i64 0, .int .i64 0, .int .i64 0]) (t := 38) ?hr ?_; (case hd => rfl); (case hg => rfl); (case hr => first | (go_simp; done) | (go_simp; rfl)); intro gb243 hg w11 hbox hb; have n0_ := Aside0.mk (Kd.R_below (Kd.R_elderB (by (with_reducible repeat (first | apply Kd.R_alloc | apply Kd.R_drewN | apply Kd.R_drew)); exact HO_7.out) gb243 (Nat.le_of_eq hg.symm)) hb); have n1_ := Aside0.mk (below_step (by repeat (first | (with_reducible first | exact HB.out | apply below_alloc | apply pw_below_drewN | apply below_drew1) | exact HB.out)) hb); have n2_ := Aside0.mk (hbox); have n3_ := Aside0.mk ((by rw [hg]; exact (below_size (by repeat (first | (with_reducible first | exact HB.out | apply below_alloc | apply pw_below_drewN | apply below_drew1) | exact HB.out))) : w.heap.size ≤ gb243)); have n4_ := Aside0.mk ((by rw [hg]; exact (below_size (by repeat (first | (with_reducible first | exact HB.out | apply below_alloc | apply pw_below_drewN | apply below_drew1) | exact HB.out))) : w.heap.size ≤ gb243)); clear HO_7; clear HB; have HO_7 := n0_; have HB := n1_; have BK243 := n2_; have GW243 := n3_; have GE243 := n4_; clear n0_ n1_ n2_ n3_ n4_; clear hb hbox hg; have hcz12_0 : w11.cell? ⟨gb243, 0, none⟩ = some (.int .i64 0) := (blk_cell BK243.out 0).trans rfl; have hcz12_1 : w11.cell? ⟨gb243, 1, none⟩ = some (.int .i64 0) := (blk_cell BK243.out 1).trans rfl; have hcz12_2 : w11.cell? ⟨gb243, 2, none⟩ = some (.int .i64 0) := (blk_cell BK243.out 2).trans rfl; have hfz12_0 := blk_frozen BK243.out 0; have hfz12_1 := blk_frozen BK243.out 1; have hfz12_2 := blk_frozen BK243.out 2)); try go_wp2_with (first | ((with_reducible refine gate_dst (N := 6) rfl ?_); refine box_event ?hg (N := 6) ?hd (cs := #[.int .i64 0, .int .i64 0, .int .i64 0]) (t := 38) ?hr ?_; (case hd => rfl); (case hg => rfl); (case hr => first | (go_simp; done) | (go_simp; rfl)); intro gb243 hg w11 hbox hb; have n0_ := Aside0.mk (Kd.R_below (Kd.R_elderB (by (with_reducible repeat (first | apply Kd.R_alloc | apply Kd.R_drewN | apply Kd.R_drew)); exact HO_7.out) gb243 (Nat.le_of_eq hg.symm)) hb); have n1_ := Aside0.mk (below_step (by repeat (first | (with_reducible first | exact HB.out | apply below_alloc | apply pw_below_drewN | apply below_drew1) | exact HB.out)) hb); have n2_ := Aside0.mk (hbox); have n3_ := Aside0.mk ((by rw [hg]; exact (below_size (by repeat (first | (with_reducible first | exact HB.out | apply below_alloc | apply pw_below_drewN | apply below_drew1) | exact HB.out))) : w.heap.size ≤ gb243)); have n4_ := Aside0.mk ((by rw [hg]; exact (below_size (by repeat (first | (with_reducible first | exact HB.out | apply below_alloc | apply pw_below_drewN | apply below_drew1) | exact HB.out))) : w.heap.size ≤ gb243)); clear HO_7; clear HB; have HO_7 := n0_; have HB := n1_; have BK243 := n2_; have GW243 := n3_; have GE243 := n4_; clear n0_ n1_ n2_ n3_ n4_; clear hb hbox hg; have hcz12_0 : w11.cell? ⟨gb243, 0, none⟩ = some (.int .i64 0) := (blk_cell BK243.out 0).trans rfl; have hcz12_1 : w11.cell? ⟨gb243, 1, none⟩ = some (.int .i64 0) := (blk_cell BK243.out 1).trans rfl; have hcz12_2 : w11.cell? ⟨gb243, 2, none⟩ = some (.int .i64 0) := (blk_cell BK243.out 2).trans rfl; have hfz12_0 := blk_frozen BK243.out 0; have hfz12_1 := blk_frozen BK243.out 1; have hfz12_2 := blk_frozen BK243.out 2)))
       go_roundg k1
       case measure => have := HK1.out; omega
       case rel => exact ⟨(wrap64 (x9_1 + 1)), (by first | rfl | (simp; done) | (simp [*]; done)), H', ⟨by have := HK1.out; omega⟩, ⟨by (with_reducible repeat (first | apply Kd.R_alloc | apply Kd.R_drewN | apply Kd.R_drew)); exact Kd.R_mono (Kd.R_far (p := ⟨gb243, 2, none⟩) (Kd.R_far (p := ⟨gb243, 1, none⟩) (Kd.R_far (p := ⟨gb243, 0, none⟩) (Kd.R_mono HO_7.out (fun k_ hk => (⟨hk, hk.2⟩ : _ ∧ k_ ≠ gb243))) (fun _ hk => hk.2) (.int .i64 ((rd_T38 t239 x9_1).f0))) (fun _ hk => hk.2) (.int .i64 ((rd_T38 t239 x9_1).f1))) (fun _ hk => hk.2) (.int .i64 ((rd_T38 t239 x9_1).f2))) (fun _ hk => trivial)⟩, ⟨by repeat (first | (with_reducible first | exact HB.out | apply below_alloc | apply pw_below_drewN | apply below_drew1 | refine below_set ?_ GE243.out) | exact HB.out)⟩⟩
     ·rw [if_neg c7] at H
      exact absurd H (by simp)
    ·rw [if_neg c6] at H
     exact absurd H (by simp)
   ·rw [if_neg c5] at H
    have c5b0 : decide (x9_1 < (t239.length : Int)) = false := decide_eq_false c5
    clear c5
    simp only [Option.some.injEq, Prod.mk.injEq] at H
    obtain ⟨rfl, rfl, rfl⟩ := H
    go_wp2
    repeat (go_quiet (fail); try go_wp2)
    go_ret3
    exact ⟨by first | rfl | (simp [errW_none, errW_some] <;> rfl) | (simp [*, errW_none, errW_some] <;> rfl), by repeat (first | (with_reducible first | exact HB.out | apply below_alloc | apply pw_below_drewN | apply below_drew1) | exact HB.out)⟩

end Go.Proofs.Ytpifdcdbkpidpaa.M
