-- Out of the print of wip/prn.py by wip/maps.py; Lean checks it.
import Derived.Test.YtimpcabimncnfaaM3
import Derived.Test.YtimpcabimncnfaaM10
import Derived.Test.YtimpcabimncnfaaM7
import Derived.Test.YtimpcabimncnfaaM6
import Derived.Test.YtimpcabimncnfaaM9
import Derived.Test.YtimpcabimncnfaaHUcd
namespace Go.Proofs.Ytimpcabimncnfaa.M
open Go.RowKit Go.Proofs.YtimpcabimncnfaaW.PrintWords Go.Proofs.YtimpcabimncnfaaW.PrintLast Go.Proofs.YtimpcabimncnfaaW.PrintMore
attribute [local go_sem] max2_int min2_int max_two min_two max_three min_three max_four min_four   -- for this text's walks alone
set_option linter.unusedVariables false
set_option linter.unusedSimpArgs false

/-! ### sobriquetlaw06_UcdMaps: function 5 -/
mutual
def sobriquetlaw06_UcdMaps.j0 : Nat → Int → List (S41) → List (S43) → List (S43) → Bool → Option (Bool)
 | 0, _, _, _, _, _ => none
 | k + 1, x0, x3, x4, x5, x26 => if x26 = true then (some false) else (if (IntKind.u64.wrap ((x3.length : Int))) = 0 then (none) else (if 0 ≤ (wrap64 (Int.tmod (IntKind.u64.wrap (x0)) (IntKind.u64.wrap ((x3.length : Int))))) then (if (wrap64 (Int.tmod (IntKind.u64.wrap (x0)) (IntKind.u64.wrap ((x3.length : Int))))) < (x3.length : Int) then ((some (([(rd_T41 x3 (wrap64 (Int.tmod (IntKind.u64.wrap (x0)) (IntKind.u64.wrap ((x3.length : Int)))))).f1, (rd_T41 x3 (wrap64 (Int.tmod (IntKind.u64.wrap (x0)) (IntKind.u64.wrap ((x3.length : Int)))))).f2] : List Int) : List Int)).bind fun y234 => (if ((rd_T41 x3 (wrap64 (Int.tmod (IntKind.u64.wrap (x0)) (IntKind.u64.wrap ((x3.length : Int)))))).f2) = 0 then (if 1 ≤ (y234.length : Int) then (sobriquetlaw06_UcdMaps.j1 k x0 x4 x5 (y234.take (1 : Int).toNat) ((rd_T41 x3 (wrap64 (Int.tmod (IntKind.u64.wrap (x0)) (IntKind.u64.wrap ((x3.length : Int)))))).f0) ((rd_T41 x3 (wrap64 (Int.tmod (IntKind.u64.wrap (x0)) (IntKind.u64.wrap ((x3.length : Int)))))).f1) ((rd_T41 x3 (wrap64 (Int.tmod (IntKind.u64.wrap (x0)) (IntKind.u64.wrap ((x3.length : Int)))))).f2)) else (none)) else (sobriquetlaw06_UcdMaps.j1 k x0 x4 x5 y234 ((rd_T41 x3 (wrap64 (Int.tmod (IntKind.u64.wrap (x0)) (IntKind.u64.wrap ((x3.length : Int)))))).f0) ((rd_T41 x3 (wrap64 (Int.tmod (IntKind.u64.wrap (x0)) (IntKind.u64.wrap ((x3.length : Int)))))).f1) ((rd_T41 x3 (wrap64 (Int.tmod (IntKind.u64.wrap (x0)) (IntKind.u64.wrap ((x3.length : Int)))))).f2)))) else (none)) else (none)))
def sobriquetlaw06_UcdMaps.j1 : Nat → Int → List (S43) → List (S43) → List Int → Int → Int → Int → Option (Bool)
 | 0, _, _, _, _, _, _, _ => none
 | k + 1, x0, x4, x5, x7, x234000, x234001, x234002 => if (IntKind.u64.wrap ((x4.length : Int))) = 0 then (none) else (if 0 ≤ (wrap64 (Int.tmod (IntKind.u64.wrap (x0)) (IntKind.u64.wrap ((x4.length : Int))))) then (if (wrap64 (Int.tmod (IntKind.u64.wrap (x0)) (IntKind.u64.wrap ((x4.length : Int))))) < (x4.length : Int) then (if (IntKind.u64.wrap ((x5.length : Int))) = 0 then (none) else (if 0 ≤ (wrap64 (Int.tmod (IntKind.u64.wrap (x0)) (IntKind.u64.wrap ((x5.length : Int))))) then (if (wrap64 (Int.tmod (IntKind.u64.wrap (x0)) (IntKind.u64.wrap ((x5.length : Int))))) < (x5.length : Int) then ((ucd_Canon.f x234000).bind fun t244 => ((sobriquetkeep_Ints.f k t244 x7).bind fun t247 => (if t247 = true then ((ucd_Compat.f ((rd_T43 x4 (wrap64 (Int.tmod (IntKind.u64.wrap (x0)) (IntKind.u64.wrap ((x4.length : Int)))))).f0)).bind fun t248 => ((sobriquetkeep_Ints.f k t248 ((rd_T43 x4 (wrap64 (Int.tmod (IntKind.u64.wrap (x0)) (IntKind.u64.wrap ((x4.length : Int)))))).f1)).bind fun t251 => (if t251 = true then ((ucd_Fold.f ((rd_T43 x5 (wrap64 (Int.tmod (IntKind.u64.wrap (x0)) (IntKind.u64.wrap ((x5.length : Int)))))).f0)).bind fun t252 => ((sobriquetkeep_Ints.f k t252 ((rd_T43 x5 (wrap64 (Int.tmod (IntKind.u64.wrap (x0)) (IntKind.u64.wrap ((x5.length : Int)))))).f1)).bind fun t255 => (sobriquetlaw06_UcdMaps.j2 k (!t255) ((rd_T43 x4 (wrap64 (Int.tmod (IntKind.u64.wrap (x0)) (IntKind.u64.wrap ((x4.length : Int)))))).f0) ((rd_T43 x4 (wrap64 (Int.tmod (IntKind.u64.wrap (x0)) (IntKind.u64.wrap ((x4.length : Int)))))).f1) ((rd_T43 x5 (wrap64 (Int.tmod (IntKind.u64.wrap (x0)) (IntKind.u64.wrap ((x5.length : Int)))))).f0) ((rd_T43 x5 (wrap64 (Int.tmod (IntKind.u64.wrap (x0)) (IntKind.u64.wrap ((x5.length : Int)))))).f1)))) else (sobriquetlaw06_UcdMaps.j2 k true ((rd_T43 x4 (wrap64 (Int.tmod (IntKind.u64.wrap (x0)) (IntKind.u64.wrap ((x4.length : Int)))))).f0) ((rd_T43 x4 (wrap64 (Int.tmod (IntKind.u64.wrap (x0)) (IntKind.u64.wrap ((x4.length : Int)))))).f1) ((rd_T43 x5 (wrap64 (Int.tmod (IntKind.u64.wrap (x0)) (IntKind.u64.wrap ((x5.length : Int)))))).f0) ((rd_T43 x5 (wrap64 (Int.tmod (IntKind.u64.wrap (x0)) (IntKind.u64.wrap ((x5.length : Int)))))).f1))))) else (sobriquetlaw06_UcdMaps.j2 k true ((rd_T43 x4 (wrap64 (Int.tmod (IntKind.u64.wrap (x0)) (IntKind.u64.wrap ((x4.length : Int)))))).f0) ((rd_T43 x4 (wrap64 (Int.tmod (IntKind.u64.wrap (x0)) (IntKind.u64.wrap ((x4.length : Int)))))).f1) ((rd_T43 x5 (wrap64 (Int.tmod (IntKind.u64.wrap (x0)) (IntKind.u64.wrap ((x5.length : Int)))))).f0) ((rd_T43 x5 (wrap64 (Int.tmod (IntKind.u64.wrap (x0)) (IntKind.u64.wrap ((x5.length : Int)))))).f1))))) else (none)) else (none))) else (none)) else (none))
def sobriquetlaw06_UcdMaps.j2 : Nat → Bool → Int → List Int → Int → List Int → Option (Bool)
 | 0, _, _, _, _, _ => none
 | k + 1, x90, x243000, x243001, x244000, x244001 => if x90 = true then (some false) else (sobriquetlaw06_UcdMaps.l0 k 0 x243000 x243001 x244000 x244001)
def sobriquetlaw06_UcdMaps.l0 : Nat → Int → Int → List Int → Int → List Int → Option (Bool)
 | 0, _, _, _, _, _ => none
 | k + 1, x10, x243000, x243001, x244000, x244001 => if x10 < (x244001.length : Int) then (if 0 ≤ x10 then ((ucd_Fold.f (rd x244001 x10)).bind fun t257 => (if (t257.length : Int) > 0 then (some false) else (sobriquetlaw06_UcdMaps.l0 k (wrap64 (x10 + 1)) x243000 x243001 x244000 x244001))) else (none)) else ((ucd_Canon.f x243000).bind fun t260 => (if (t260.length : Int) = 0 then ((sobriquetlaw06_wakes.f k).bind fun t263 => (some t263)) else (some false)))
end
def sobriquetlaw06_UcdMaps.f (k : Nat) (a0 : Int) : Option (Bool) := (api_Canon.f k).bind fun t223 => ((api_Compat.f k).bind fun t226 => ((api_Folds.f k).bind fun t229 => (if (t223.length : Int) = 0 then (sobriquetlaw06_UcdMaps.j0 k a0 t223 t226 t229 true) else (if (t226.length : Int) = 0 then (sobriquetlaw06_UcdMaps.j0 k a0 t223 t226 t229 true) else (sobriquetlaw06_UcdMaps.j0 k a0 t223 t226 t229 ((t229.length : Int) == 0))))))
theorem sobriquetlaw06_UcdMaps.mono_l : ∀ k, (∀ y0 y1 y2 y3 y4, LeO (sobriquetlaw06_UcdMaps.j0 k y0 y1 y2 y3 y4) (sobriquetlaw06_UcdMaps.j0 (k + 1) y0 y1 y2 y3 y4)) ∧ (∀ y0 y1 y2 y3 y4 y5 y6, LeO (sobriquetlaw06_UcdMaps.j1 k y0 y1 y2 y3 y4 y5 y6) (sobriquetlaw06_UcdMaps.j1 (k + 1) y0 y1 y2 y3 y4 y5 y6)) ∧ (∀ y0 y1 y2 y3 y4, LeO (sobriquetlaw06_UcdMaps.j2 k y0 y1 y2 y3 y4) (sobriquetlaw06_UcdMaps.j2 (k + 1) y0 y1 y2 y3 y4)) ∧ (∀ y0 y1 y2 y3 y4, LeO (sobriquetlaw06_UcdMaps.l0 k y0 y1 y2 y3 y4) (sobriquetlaw06_UcdMaps.l0 (k + 1) y0 y1 y2 y3 y4))
 | 0 => ⟨fun _ _ _ _ _ r h => by simp [sobriquetlaw06_UcdMaps.j0] at h, fun _ _ _ _ _ _ _ r h => by simp [sobriquetlaw06_UcdMaps.j1] at h, fun _ _ _ _ _ r h => by simp [sobriquetlaw06_UcdMaps.j2] at h, fun _ _ _ _ _ r h => by simp [sobriquetlaw06_UcdMaps.l0] at h⟩
 | k + 1 => by
  obtain ⟨ih0, ih1, ih2, ih3⟩ := sobriquetlaw06_UcdMaps.mono_l k
  refine ⟨?_, ?_, ?_, ?_⟩
  ·intro y0 y1 y2 y3 y4
   unfold sobriquetlaw06_UcdMaps.j0
   repeat' first
   | (with_reducible exact ih0 _ _ _ _ _)
   | (with_reducible exact ih1 _ _ _ _ _ _ _)
   | (with_reducible exact ih2 _ _ _ _ _)
   | (with_reducible exact ih3 _ _ _ _ _)
   | (with_reducible exact api_Canon.mono _)
   | (with_reducible exact api_Compat.mono _)
   | (with_reducible exact api_Folds.mono _)
   | (with_reducible exact sobriquetkeep_Ints.mono _ _ _)
   | (with_reducible exact sobriquetlaw06_wakes.mono _)
   | (with_reducible exact LeO.refl _)
   | (with_reducible exact LeO.none _)
   | (with_reducible refine LeO.ite ?_ ?_)
   | (with_reducible refine LeO.bind ?_ (fun _ => ?_))
   | exact ih0 _ _ _ _ _
   | exact ih1 _ _ _ _ _ _ _
   | exact ih2 _ _ _ _ _
   | exact ih3 _ _ _ _ _
   | exact api_Canon.mono _
   | exact api_Compat.mono _
   | exact api_Folds.mono _
   | exact sobriquetkeep_Ints.mono _ _ _
   | exact sobriquetlaw06_wakes.mono _
   | exact LeO.none _
   | refine LeO.ite ?_ ?_
   | refine LeO.bind ?_ (fun _ => ?_)
  ·intro y0 y1 y2 y3 y4 y5 y6
   unfold sobriquetlaw06_UcdMaps.j1
   repeat' first
   | (with_reducible exact ih0 _ _ _ _ _)
   | (with_reducible exact ih1 _ _ _ _ _ _ _)
   | (with_reducible exact ih2 _ _ _ _ _)
   | (with_reducible exact ih3 _ _ _ _ _)
   | (with_reducible exact api_Canon.mono _)
   | (with_reducible exact api_Compat.mono _)
   | (with_reducible exact api_Folds.mono _)
   | (with_reducible exact sobriquetkeep_Ints.mono _ _ _)
   | (with_reducible exact sobriquetlaw06_wakes.mono _)
   | (with_reducible exact LeO.refl _)
   | (with_reducible exact LeO.none _)
   | (with_reducible refine LeO.ite ?_ ?_)
   | (with_reducible refine LeO.bind ?_ (fun _ => ?_))
   | exact ih0 _ _ _ _ _
   | exact ih1 _ _ _ _ _ _ _
   | exact ih2 _ _ _ _ _
   | exact ih3 _ _ _ _ _
   | exact api_Canon.mono _
   | exact api_Compat.mono _
   | exact api_Folds.mono _
   | exact sobriquetkeep_Ints.mono _ _ _
   | exact sobriquetlaw06_wakes.mono _
   | exact LeO.none _
   | refine LeO.ite ?_ ?_
   | refine LeO.bind ?_ (fun _ => ?_)
  ·intro y0 y1 y2 y3 y4
   unfold sobriquetlaw06_UcdMaps.j2
   repeat' first
   | (with_reducible exact ih0 _ _ _ _ _)
   | (with_reducible exact ih1 _ _ _ _ _ _ _)
   | (with_reducible exact ih2 _ _ _ _ _)
   | (with_reducible exact ih3 _ _ _ _ _)
   | (with_reducible exact api_Canon.mono _)
   | (with_reducible exact api_Compat.mono _)
   | (with_reducible exact api_Folds.mono _)
   | (with_reducible exact sobriquetkeep_Ints.mono _ _ _)
   | (with_reducible exact sobriquetlaw06_wakes.mono _)
   | (with_reducible exact LeO.refl _)
   | (with_reducible exact LeO.none _)
   | (with_reducible refine LeO.ite ?_ ?_)
   | (with_reducible refine LeO.bind ?_ (fun _ => ?_))
   | exact ih0 _ _ _ _ _
   | exact ih1 _ _ _ _ _ _ _
   | exact ih2 _ _ _ _ _
   | exact ih3 _ _ _ _ _
   | exact api_Canon.mono _
   | exact api_Compat.mono _
   | exact api_Folds.mono _
   | exact sobriquetkeep_Ints.mono _ _ _
   | exact sobriquetlaw06_wakes.mono _
   | exact LeO.none _
   | refine LeO.ite ?_ ?_
   | refine LeO.bind ?_ (fun _ => ?_)
  ·intro y0 y1 y2 y3 y4
   unfold sobriquetlaw06_UcdMaps.l0
   repeat' first
   | (with_reducible exact ih0 _ _ _ _ _)
   | (with_reducible exact ih1 _ _ _ _ _ _ _)
   | (with_reducible exact ih2 _ _ _ _ _)
   | (with_reducible exact ih3 _ _ _ _ _)
   | (with_reducible exact api_Canon.mono _)
   | (with_reducible exact api_Compat.mono _)
   | (with_reducible exact api_Folds.mono _)
   | (with_reducible exact sobriquetkeep_Ints.mono _ _ _)
   | (with_reducible exact sobriquetlaw06_wakes.mono _)
   | (with_reducible exact LeO.refl _)
   | (with_reducible exact LeO.none _)
   | (with_reducible refine LeO.ite ?_ ?_)
   | (with_reducible refine LeO.bind ?_ (fun _ => ?_))
   | exact ih0 _ _ _ _ _
   | exact ih1 _ _ _ _ _ _ _
   | exact ih2 _ _ _ _ _
   | exact ih3 _ _ _ _ _
   | exact api_Canon.mono _
   | exact api_Compat.mono _
   | exact api_Folds.mono _
   | exact sobriquetkeep_Ints.mono _ _ _
   | exact sobriquetlaw06_wakes.mono _
   | exact LeO.none _
   | refine LeO.ite ?_ ?_
   | refine LeO.bind ?_ (fun _ => ?_)
theorem sobriquetlaw06_UcdMaps.mono : ∀ a0 k, LeO (sobriquetlaw06_UcdMaps.f k a0) (sobriquetlaw06_UcdMaps.f (k + 1) a0) := by
 intro a0 k
 obtain ⟨ih0, ih1, ih2, ih3⟩ := sobriquetlaw06_UcdMaps.mono_l k
 unfold sobriquetlaw06_UcdMaps.f
 repeat' first
   | (with_reducible exact ih0 _ _ _ _ _)
   | (with_reducible exact ih1 _ _ _ _ _ _ _)
   | (with_reducible exact ih2 _ _ _ _ _)
   | (with_reducible exact ih3 _ _ _ _ _)
   | (with_reducible exact api_Canon.mono _)
   | (with_reducible exact api_Compat.mono _)
   | (with_reducible exact api_Folds.mono _)
   | (with_reducible exact sobriquetkeep_Ints.mono _ _ _)
   | (with_reducible exact sobriquetlaw06_wakes.mono _)
   | (with_reducible exact LeO.refl _)
   | (with_reducible exact LeO.none _)
   | (with_reducible refine LeO.ite ?_ ?_)
   | (with_reducible refine LeO.bind ?_ (fun _ => ?_))
   | exact ih0 _ _ _ _ _
   | exact ih1 _ _ _ _ _ _ _
   | exact ih2 _ _ _ _ _
   | exact ih3 _ _ _ _ _
   | exact api_Canon.mono _
   | exact api_Compat.mono _
   | exact api_Folds.mono _
   | exact sobriquetkeep_Ints.mono _ _ _
   | exact sobriquetlaw06_wakes.mono _
   | exact LeO.none _
   | refine LeO.ite ?_ ?_
   | refine LeO.bind ?_ (fun _ => ?_)
def sobriquetlaw06_UcdMaps.T8 : Bool × List (List Nat × List Nat) := (true, [([], []), ([], []), ([1], [1]), ([], []), ([3], [3]), ([4], [4]), ([2, 5], [2, 5]), ([6], [6]), ([0, 7], [0, 7]), ([8], [8]), ([], []), ([], []), ([11], [11]), ([], []), ([13], [13]), ([14], [14]), ([12, 15], [12, 15]), ([16], [16]), ([10, 17], [10, 17]), ([18], [18]), ([], []), ([], []), ([20, 9, 0, 1, 2, 3, 4, 5, 6, 7, 8, 9, 20, 21], [9, 20]), ([21, 19, 22, 0, 1, 2, 3, 4, 5, 6, 7, 8, 9, 10, 11, 12, 13, 14, 15, 16, 17, 18, 19, 20, 21, 22], [19, 21])])
def sobriquetlaw06_UcdMaps.B8 : List Nat := [0, 0, 2, 0, 8, 24, 62, 126, 255, 511, 0, 0, 2048, 0, 8192, 24576, 63488, 129024, 261120, 523264, 0, 0, 3146751, 8388607]
theorem sobriquetlaw06_UcdMaps.tab8 : rtab .any (opsOf Try.f5 8) = sobriquetlaw06_UcdMaps.T8 := by kernel_rfl
theorem sobriquetlaw06_UcdMaps.bits8 : waitsOk sobriquetlaw06_UcdMaps.T8.2 sobriquetlaw06_UcdMaps.B8 = true := by kernel_rfl
def sobriquetlaw06_UcdMaps.T9 : Bool × List (List Nat × List Nat) := (true, [([], []), ([0], [0]), ([1], [1]), ([], []), ([2, 3, 2], [2, 3]), ([4], [4]), ([5, 4], [5]), ([6], [6]), ([7, 6], [6, 7]), ([8, 6, 6], [6, 8]), ([6], [6]), ([10, 6], [6, 10]), ([9, 11, 9, 6], [6, 9, 11]), ([12, 6], [6, 12]), ([6, 13], [6, 13]), ([14, 12], [14]), ([15], [15]), ([16, 15], [15, 16]), ([17, 15, 15], [15, 17]), ([15], [15]), ([19, 15], [15, 19]), ([18, 20, 18, 15], [15, 18, 20]), ([21, 15], [15, 21]), ([15, 22], [15, 22])])
def sobriquetlaw06_UcdMaps.B9 : List Nat := [0, 1, 3, 0, 15, 31, 63, 127, 255, 511, 127, 1151, 4095, 8191, 16383, 32767, 65535, 131071, 262143, 65535, 589823, 2097151, 4194303, 8388607]
theorem sobriquetlaw06_UcdMaps.tab9 : rtab .any (opsOf Try.f5 9) = sobriquetlaw06_UcdMaps.T9 := by kernel_rfl
theorem sobriquetlaw06_UcdMaps.bits9 : waitsOk sobriquetlaw06_UcdMaps.T9.2 sobriquetlaw06_UcdMaps.B9 = true := by kernel_rfl
theorem own_len {x n m c : Nat} {A : Option Addr} (h : some x ≠ (Value.slice A n c).ownBlock) : some x ≠ (Value.slice A m c).ownBlock := by
 cases A <;> exact h
theorem maps_no0 (k : Nat) (a : Int) (b : List S41) (c d : List S43) (r : Bool) (hr : r = true) : ¬ (sobriquetlaw06_UcdMaps.j0 k a b c d true = some r) := by
 subst hr; cases k <;> simp [sobriquetlaw06_UcdMaps.j0]
theorem maps_no1 (r : Bool) (hr : r = true) : ¬ (some false = some r) := by
 subst hr; simp
theorem maps_no2 (k : Nat) (a : Int) (b : List Int) (c : Int) (d : List Int) (r : Bool) (hr : r = true) : ¬ (sobriquetlaw06_UcdMaps.j2 k true a b c d = some r) := by
 subst hr; cases k <;> simp [sobriquetlaw06_UcdMaps.j2]
set_option maxHeartbeats 8000000 in
set_option maxRecDepth 100000 in
theorem sobriquetlaw06_UcdMaps.calls (k : Nat) (a0 : Int) (r : Bool) (w : World) (h : sobriquetlaw06_UcdMaps.f k a0 = some r) (hr : r = true) :
  Calls Try.prog 5 #[.int .i64 a0] w fun e w' => e = .returned (.bool r) ∧ Below w.heap.size w w' := by
 have HRr := Aside0.mk hr
 clear hr
 have hu41 := Try.underlying41
 have hu43 := Try.underlying43
 have HB := Aside0.mk (Below.refl w.heap.size w)
 have H : ((api_Canon.f k).bind fun t223 => ((api_Compat.f k).bind fun t226 => ((api_Folds.f k).bind fun t229 => (if (t223.length : Int) = 0 then (sobriquetlaw06_UcdMaps.j0 k a0 t223 t226 t229 true) else (if (t226.length : Int) = 0 then (sobriquetlaw06_UcdMaps.j0 k a0 t223 t226 t229 true) else (sobriquetlaw06_UcdMaps.j0 k a0 t223 t226 t229 ((t229.length : Int) == 0))))))) = some r := h
 clear h
 replace H := Option.bind_eq_some_iff.mp H
 obtain ⟨t223, A20, H⟩ := H
 replace H : ((api_Compat.f k).bind fun t226 => ((api_Folds.f k).bind fun t229 => (if (t223.length : Int) = 0 then (sobriquetlaw06_UcdMaps.j0 k a0 t223 t226 t229 true) else (if (t226.length : Int) = 0 then (sobriquetlaw06_UcdMaps.j0 k a0 t223 t226 t229 true) else (sobriquetlaw06_UcdMaps.j0 k a0 t223 t226 t229 ((t229.length : Int) == 0)))))) = some r := H
 have A2 := Aside0.mk A20
 clear A20
 replace H := Option.bind_eq_some_iff.mp H
 obtain ⟨t226, A30, H⟩ := H
 replace H : ((api_Folds.f k).bind fun t229 => (if (t223.length : Int) = 0 then (sobriquetlaw06_UcdMaps.j0 k a0 t223 t226 t229 true) else (if (t226.length : Int) = 0 then (sobriquetlaw06_UcdMaps.j0 k a0 t223 t226 t229 true) else (sobriquetlaw06_UcdMaps.j0 k a0 t223 t226 t229 ((t229.length : Int) == 0))))) = some r := H
 have A3 := Aside0.mk A30
 clear A30
 replace H := Option.bind_eq_some_iff.mp H
 obtain ⟨t229, A40, H⟩ := H
 replace H : (if (t223.length : Int) = 0 then (sobriquetlaw06_UcdMaps.j0 k a0 t223 t226 t229 true) else (if (t226.length : Int) = 0 then (sobriquetlaw06_UcdMaps.j0 k a0 t223 t226 t229 true) else (sobriquetlaw06_UcdMaps.j0 k a0 t223 t226 t229 ((t229.length : Int) == 0)))) = some r := H
 have A4 := Aside0.mk A40
 clear A40
 have HC5 := Aside0.mk H
 clear H
 go_enter Try.func5, Try.ntmps5
 go_upto_region 2 with (first | ((with_reducible refine gate_callee (f := 24) rfl ?_); refine goesL_ (some 11) rfl rfl Try.func24 (by kernel_rfl) rfl #[] rfl (by (try simp only [List.map_toArray, List.map_cons, List.map_nil]); first | done | rfl | (simp only [List.length_drop, List.length_take]; rfl)) ?_; (with_reducible refine (api_Canon.calls k  t223 _ A2.out).mono ?_); rintro e w6 ⟨v224, rfl, ho0, hb⟩; refine ⟨_, rfl, ?_⟩; have n0_ := Aside0.mk (Kd.R_lower ho0 (below_size (by repeat (first | (with_reducible first | exact HB.out | apply below_alloc | apply pw_below_drewN | apply below_drew1) | exact HB.out)))); have n1_ := Aside0.mk (below_step (by repeat (first | (with_reducible first | exact HB.out | apply below_alloc | apply pw_below_drewN | apply below_drew1) | exact HB.out)) hb); clear HB; have HO225 := n0_; have HB := n1_; clear n0_ n1_; (try clear hb); (try clear hb2); (try clear hk); (try clear hi); (try clear ho0)) | ((with_reducible refine gate_callee (f := 25) rfl ?_); refine goesL_ (some 12) rfl rfl Try.func25 (by kernel_rfl) rfl #[] rfl (by (try simp only [List.map_toArray, List.map_cons, List.map_nil]); first | done | rfl | (simp only [List.length_drop, List.length_take]; rfl)) ?_; (with_reducible refine (api_Compat.calls k  t226 _ A3.out).mono ?_); rintro e w7 ⟨v227, rfl, ho0, hb⟩; refine ⟨_, rfl, ?_⟩; have n0_ := Aside0.mk (Kd.R_below (by (with_reducible repeat (first | apply Kd.R_alloc | apply Kd.R_drewN | apply Kd.R_drew)); exact HO225.out) hb); have n1_ := Aside0.mk (Kd.N_lower (Kd.N_mono (ok' := fun k_ => some k_ ≠ (v224 : Value).ownBlock) ho0 (fun k_ hk_ => (Kd.fresh' (Kd.R_lt (by (with_reducible repeat (first | apply Kd.R_alloc | apply Kd.R_drewN | apply Kd.R_drew)); exact HO225.out)) k_ hk_))) (below_size (by repeat (first | (with_reducible first | exact HB.out | apply below_alloc | apply pw_below_drewN | apply below_drew1) | exact HB.out)))); have n2_ := Aside0.mk (below_step (by repeat (first | (with_reducible first | exact HB.out | apply below_alloc | apply pw_below_drewN | apply below_drew1) | exact HB.out)) hb); clear HO225; clear HB; have HO225 := n0_; have HO228 := n1_; have HB := n2_; clear n0_ n1_ n2_; (try clear hb); (try clear hb2); (try clear hk); (try clear hi); (try clear ho0)) | ((with_reducible refine gate_callee (f := 26) rfl ?_); refine goesL_ (some 13) rfl rfl Try.func26 (by kernel_rfl) rfl #[] rfl (by (try simp only [List.map_toArray, List.map_cons, List.map_nil]); first | done | rfl | (simp only [List.length_drop, List.length_take]; rfl)) ?_; (with_reducible refine (api_Folds.calls k  t229 _ A4.out).mono ?_); rintro e w8 ⟨v230, rfl, ho0, hb⟩; refine ⟨_, rfl, ?_⟩; have n0_ := Aside0.mk (Kd.R_below (by (with_reducible repeat (first | apply Kd.R_alloc | apply Kd.R_drewN | apply Kd.R_drew)); exact HO225.out) hb); have n1_ := Aside0.mk (Kd.N_elder' (by (with_reducible repeat (first | apply Kd.N_alloc | apply Kd.N_drewN | apply Kd.N_drew)); exact HO228.out) (Kd.N_base ho0) hb); have n2_ := Aside0.mk (Kd.N_lower (Kd.N_mono (ok' := fun k_ => some k_ ≠ (v224 : Value).ownBlock ∧ some k_ ≠ (v227 : Value).ownBlock) ho0 (fun k_ hk_ => ⟨(Kd.fresh' (Kd.R_lt (by (with_reducible repeat (first | apply Kd.R_alloc | apply Kd.R_drewN | apply Kd.R_drew)); exact HO225.out)) k_ hk_), (Kd.fresh' (Kd.N_lt (by (with_reducible repeat (first | apply Kd.N_alloc | apply Kd.N_drewN | apply Kd.N_drew)); exact HO228.out)) k_ hk_)⟩)) (below_size (by repeat (first | (with_reducible first | exact HB.out | apply below_alloc | apply pw_below_drewN | apply below_drew1) | exact HB.out)))); have n3_ := Aside0.mk (below_step (by repeat (first | (with_reducible first | exact HB.out | apply below_alloc | apply pw_below_drewN | apply below_drew1) | exact HB.out)) hb); clear HO225; clear HO228; clear HB; have HO225 := n0_; have HO228 := n1_; have HO231 := n2_; have HB := n3_; clear n0_ n1_ n2_ n3_; (try clear hb); (try clear hb2); (try clear hk); (try clear hi); (try clear ho0)))
 (try simp only [Act.put, List.setIfInBounds_toArray, List.set_cons_zero, List.set_cons_succ])
 go_cut [26] (fun v26 wc => ∃ (kq : Nat) (x26_4 : Bool), v26 = .bool x26_4 ∧ Aside0 (sobriquetlaw06_UcdMaps.j0 kq a0 t223 t226 t229 x26_4 = some r) ∧ Aside0 (kq ≤ k) ∧ Aside0 (Kd.R k41 41 wc w.heap.size (fun _ => True) v224 t223) ∧ Aside0 (Kd.N k43 43 wc w.heap.size (fun k_ => some k_ ≠ (v224 : Value).ownBlock ∧ some k_ ≠ (v230 : Value).ownBlock) v227 t226) ∧ Aside0 (Kd.N k43 43 wc w.heap.size (fun k_ => some k_ ≠ (v224 : Value).ownBlock ∧ some k_ ≠ (v227 : Value).ownBlock) v230 t229) ∧ Aside0 (Below w.heap.size w wc))
 case first =>
  have H := HC5.out
  clear HC5
  by_cases c9 : (t223.length : Int) = 0
  ·(rw [if_pos c9] at H; exact absurd H (maps_no0 _ _ _ _ _ _ HRr.out))
  ·rw [if_neg c9] at H
   have c9b0 : ((t223.length : Int) == 0) = false := beq_eq_false_iff_ne.mpr c9
   have c9b1 : ((t223.length : Int) != 0) = true := bne_iff_ne.mpr c9
   have c9b2 : ¬ (t223 = []) := fun h_ => c9 (by rw [h_]; rfl)
   (first | rw [c9b0] | (simp only [i64_w, i32_w]; rw [c9b0]) | skip)
   by_cases c11 : (t226.length : Int) = 0
   ·(rw [if_pos c11] at H; exact absurd H (maps_no0 _ _ _ _ _ _ HRr.out))
   ·rw [if_neg c11] at H
    have c11b0 : ((t226.length : Int) == 0) = false := beq_eq_false_iff_ne.mpr c11
    have c11b1 : ((t226.length : Int) != 0) = true := bne_iff_ne.mpr c11
    have c11b2 : ¬ (t226 = []) := fun h_ => c11 (by rw [h_]; rfl)
    have H' := Aside0.mk H
    clear H
    obtain ⟨Ao14, co14, eo14⟩ := Kd.R_slice HO225.out
    subst eo14
    obtain ⟨Ao15, co15, eo15⟩ := Kd.N_slice HO228.out
    subst eo15
    obtain ⟨Ao16, co16, eo16⟩ := Kd.N_slice HO231.out
    subst eo16
    go_wp2
    go_meet
    case rel => exact ⟨_, (((t229.length : Int) == 0)), (by first | rfl | (simp; done) | (simp [*]; done)), H', ⟨by first | omega | exact Nat.le_refl _⟩, ⟨by (with_reducible repeat (first | apply Kd.R_alloc | apply Kd.R_drewN | apply Kd.R_drew)); exact HO225.out⟩, ⟨by (with_reducible repeat (first | apply Kd.N_alloc | apply Kd.N_drewN | apply Kd.N_drew)); exact HO228.out⟩, ⟨by (with_reducible repeat (first | apply Kd.N_alloc | apply Kd.N_drewN | apply Kd.N_drew)); exact HO231.out⟩, ⟨by repeat (first | (with_reducible first | exact HB.out | apply below_alloc | apply pw_below_drewN | apply below_drew1) | exact HB.out)⟩⟩
 case rest =>
  clear HC5
  try clear c1
  try clear c2
  try clear p2
  try clear c5
  try clear c9
  try clear c9b0
  try clear c9b1
  try clear c9b2
  try clear c11
  try clear c11b0
  try clear c11b1
  try clear c11b2
  obtain ⟨kq, x26_4, rfl, HA, HJ4, HO_3, HO_4, HO_5, HB⟩ := hcut
  cases kq with
  | zero => exact absurd HA.out (by simp [sobriquetlaw06_UcdMaps.j0])
  | succ kj4 =>
   have H := HA.out
   clear HA
   simp only [sobriquetlaw06_UcdMaps.j0] at H
   by_cases c17 : x26_4 = true
   ·(rw [if_pos c17] at H; exact absurd H (maps_no1 _ HRr.out))
   ·replace c17 := Bool.eq_false_iff.mpr c17
    subst c17
    have H1 : (if (IntKind.u64.wrap ((t223.length : Int))) = 0 then (none) else (if 0 ≤ (wrap64 (Int.tmod (IntKind.u64.wrap (a0)) (IntKind.u64.wrap ((t223.length : Int))))) then (if (wrap64 (Int.tmod (IntKind.u64.wrap (a0)) (IntKind.u64.wrap ((t223.length : Int))))) < (t223.length : Int) then ((some (([(rd_T41 t223 (wrap64 (Int.tmod (IntKind.u64.wrap (a0)) (IntKind.u64.wrap ((t223.length : Int)))))).f1, (rd_T41 t223 (wrap64 (Int.tmod (IntKind.u64.wrap (a0)) (IntKind.u64.wrap ((t223.length : Int)))))).f2] : List Int) : List Int)).bind fun y234 => (if ((rd_T41 t223 (wrap64 (Int.tmod (IntKind.u64.wrap (a0)) (IntKind.u64.wrap ((t223.length : Int)))))).f2) = 0 then (if 1 ≤ (y234.length : Int) then (sobriquetlaw06_UcdMaps.j1 kj4 a0 t226 t229 (y234.take (1 : Int).toNat) ((rd_T41 t223 (wrap64 (Int.tmod (IntKind.u64.wrap (a0)) (IntKind.u64.wrap ((t223.length : Int)))))).f0) ((rd_T41 t223 (wrap64 (Int.tmod (IntKind.u64.wrap (a0)) (IntKind.u64.wrap ((t223.length : Int)))))).f1) ((rd_T41 t223 (wrap64 (Int.tmod (IntKind.u64.wrap (a0)) (IntKind.u64.wrap ((t223.length : Int)))))).f2)) else (none)) else (sobriquetlaw06_UcdMaps.j1 kj4 a0 t226 t229 y234 ((rd_T41 t223 (wrap64 (Int.tmod (IntKind.u64.wrap (a0)) (IntKind.u64.wrap ((t223.length : Int)))))).f0) ((rd_T41 t223 (wrap64 (Int.tmod (IntKind.u64.wrap (a0)) (IntKind.u64.wrap ((t223.length : Int)))))).f1) ((rd_T41 t223 (wrap64 (Int.tmod (IntKind.u64.wrap (a0)) (IntKind.u64.wrap ((t223.length : Int)))))).f2)))) else (none)) else (none))) = some r := by rw [if_neg (show ¬ (false = true) by decide)] at H; exact H
    clear H
    have H := H1
    clear H1
    by_cases c18 : (IntKind.u64.wrap ((t223.length : Int))) = 0
    ·rw [if_pos c18] at H
     exact absurd H (by simp)
    ·rw [if_neg c18] at H
     have c18b0 : ((IntKind.u64.wrap ((t223.length : Int))) == 0) = false := beq_eq_false_iff_ne.mpr c18
     have c18b1 : ((IntKind.u64.wrap ((t223.length : Int))) != 0) = true := bne_iff_ne.mpr c18
     obtain ⟨ji19, hji19⟩ : ∃ j_ : Int, (wrap64 (Int.tmod (IntKind.u64.wrap (a0)) (IntKind.u64.wrap ((t223.length : Int))))) = j_ := ⟨_, rfl⟩
     replace H : (if 0 ≤ (ji19) then (if (ji19) < (t223.length : Int) then ((some (([(rd_T41 t223 (ji19)).f1, (rd_T41 t223 (ji19)).f2] : List Int) : List Int)).bind fun y234 => (if ((rd_T41 t223 (ji19)).f2) = 0 then (if 1 ≤ (y234.length : Int) then (sobriquetlaw06_UcdMaps.j1 kj4 a0 t226 t229 (y234.take (1 : Int).toNat) ((rd_T41 t223 (ji19)).f0) ((rd_T41 t223 (ji19)).f1) ((rd_T41 t223 (ji19)).f2)) else (none)) else (sobriquetlaw06_UcdMaps.j1 kj4 a0 t226 t229 y234 ((rd_T41 t223 (ji19)).f0) ((rd_T41 t223 (ji19)).f1) ((rd_T41 t223 (ji19)).f2)))) else (none)) else (none)) = some r := by first | (rw [hji19] at H; exact H) | (simp only [hji19] at H ⊢; exact H)
     have hji19w : (IntKind.i64.wrap (Int.tmod (IntKind.u64.wrap (a0)) (IntKind.u64.wrap ((t223.length : Int))))) = ji19 := (i64_w _).trans hji19
     by_cases c20 : 0 ≤ (ji19)
     ·rw [if_pos c20] at H
      have c20b0 : decide (0 ≤ (ji19)) = true := decide_eq_true c20
      clear c20
      by_cases c21 : (ji19) < (t223.length : Int)
      ·rw [if_pos c21] at H
       have c21b0 : decide ((ji19) < (t223.length : Int)) = true := decide_eq_true c21
       clear c21
       obtain ⟨y234, hy234⟩ : ∃ y_ : List Int, y_ = (([(rd_T41 t223 (ji19)).f1, (rd_T41 t223 (ji19)).f2] : List Int)) := ⟨_, rfl⟩
       replace H : (if ((rd_T41 t223 (ji19)).f2) = 0 then (if 1 ≤ (y234.length : Int) then (sobriquetlaw06_UcdMaps.j1 kj4 a0 t226 t229 (y234.take (1 : Int).toNat) ((rd_T41 t223 (ji19)).f0) ((rd_T41 t223 (ji19)).f1) ((rd_T41 t223 (ji19)).f2)) else (none)) else (sobriquetlaw06_UcdMaps.j1 kj4 a0 t226 t229 y234 ((rd_T41 t223 (ji19)).f0) ((rd_T41 t223 (ji19)).f1) ((rd_T41 t223 (ji19)).f2))) = some r := by first | (rw [hy234]; with_reducible exact H) | (have H2_ := (Option.bind_some _ _).symm.trans H; rw [hy234]; with_reducible exact H2_) | (have H2_ := (Option.bind_some _ _).symm.trans H; with_reducible exact H2_) | with_reducible exact H | (rw [hy234]; exact H) | exact H
       have Ny234 := Aside0.mk hy234
       clear hy234
       have HC22 := Aside0.mk H
       clear H
       obtain ⟨Ao23, co23, eo23⟩ := Kd.R_slice HO_3.out
       subst eo23
       have p232 : 0 ≤ ((ji19) : Int) := of_decide_eq_true (by first | (with_reducible assumption) | assumption)
       have q232 : (ji19) < (t223.length : Int) := of_decide_eq_true (by first | (with_reducible assumption) | assumption)
       obtain ⟨ad232, e232, hx232_0, hx232_1, hx232_2⟩ := at_T41 (Kd.R_reads' HO_3.out).2.2 (ji19) p232 q232
       cases e232
       replace p232 := eq_true p232
       replace q232 := eq_true q232
       go_upto_if 44 with (first | ((with_reducible refine gate_dst (N := 6) rfl ?_); (try (refine gate_guard (by rfl) ?_; dsimp only)); refine box_event ?hg (N := 6) ?hd (cs := #[.int .i64 0, .int .i64 0, .int .i64 0]) (t := 41) ?hr ?_; (case hd => rfl); (case hg => rfl); (case hr => first | (go_simp; done) | (go_simp; rfl)); intro gb233 hg w24 hbox hb; have n0_ := Aside0.mk (Kd.R_below (Kd.R_elderB (by (with_reducible repeat (first | apply Kd.R_alloc | apply Kd.R_drewN | apply Kd.R_drew)); exact HO_3.out) gb233 (Nat.le_of_eq hg.symm)) hb); have n1_ := Aside0.mk (Kd.N_below (Kd.N_elderB (by (with_reducible repeat (first | apply Kd.N_alloc | apply Kd.N_drewN | apply Kd.N_drew)); exact HO_4.out) gb233 (Nat.le_of_eq hg.symm)) hb); have n2_ := Aside0.mk (Kd.N_below (Kd.N_elderB (by (with_reducible repeat (first | apply Kd.N_alloc | apply Kd.N_drewN | apply Kd.N_drew)); exact HO_5.out) gb233 (Nat.le_of_eq hg.symm)) hb); have n3_ := Aside0.mk (below_step (by repeat (first | (with_reducible first | exact HB.out | apply below_alloc | apply pw_below_drewN | apply below_drew1) | exact HB.out)) hb); have n4_ := Aside0.mk (hbox); have n5_ := Aside0.mk ((by rw [hg]; exact (below_size (by repeat (first | (with_reducible first | exact HB.out | apply below_alloc | apply pw_below_drewN | apply below_drew1) | exact HB.out))) : w.heap.size ≤ gb233)); have n6_ := Aside0.mk ((by rw [hg]; exact (below_size (by repeat (first | (with_reducible first | exact HB.out | apply below_alloc | apply pw_below_drewN | apply below_drew1) | exact HB.out))) : w.heap.size ≤ gb233)); clear HO_3; clear HO_4; clear HO_5; clear HB; have HO_3 := n0_; have HO_4 := n1_; have HO_5 := n2_; have HB := n3_; have BK233 := n4_; have GW233 := n5_; have GE233 := n6_; clear n0_ n1_ n2_ n3_ n4_ n5_ n6_; clear hb hbox hg; have hcz25_0 : w24.cell? ⟨gb233, 0, none⟩ = some (.int .i64 0) := (blk_cell BK233.out 0).trans rfl; have hcz25_1 : w24.cell? ⟨gb233, 1, none⟩ = some (.int .i64 0) := (blk_cell BK233.out 1).trans rfl; have hcz25_2 : w24.cell? ⟨gb233, 2, none⟩ = some (.int .i64 0) := (blk_cell BK233.out 2).trans rfl; have hfz25_0 := blk_frozen BK233.out 0; have hfz25_1 := blk_frozen BK233.out 1; have hfz25_2 := blk_frozen BK233.out 2) | ((with_reducible refine gate_dst (N := 41) rfl ?_); (try (refine gate_guard (by rfl) ?_; dsimp only)); refine Kd.R_lit (Kd.int .i64) _ 3 ?hg (N := 41) ?hd (xs := ([(rd_T41 t223 (ji19)).f1, (rd_T41 t223 (ji19)).f2] : List Int)) (inner := [.int .i64 ((rd_T41 t223 (ji19)).f1), .int .i64 ((rd_T41 t223 (ji19)).f2)]) (ok := fun _ => True) (okp := fun _ => True) ?hr ?hp (fun _ hk => hk) trivial (Below.refl _ _) (Nat.le_refl _) (by simp) ?_; (case hd => rfl); (case hg => rfl); (case hr => first | (go_simp; done) | (go_simp; rfl)); (case hp => exact (Reps.one (show Kd.M (Kd.int .i64) _ _ _ ((rd_T41 t223 (ji19)).f1) [.int .i64 ((rd_T41 t223 (ji19)).f1)] from rfl) (Reps.one (show Kd.M (Kd.int .i64) _ _ _ ((rd_T41 t223 (ji19)).f2) [.int .i64 ((rd_T41 t223 (ji19)).f2)] from rfl) (Reps.none _ _)))); intro v235 w26 ho27 hb hg_ hnew_; clear hg_ hnew_; (first | rw [← Ny234.out] at ho27 | (simp only [Int.reduceToNat] at ho27; rw [← Ny234.out] at ho27)); have n0_ := Aside0.mk (Kd.R_below (by (with_reducible repeat (first | apply Kd.R_alloc | apply Kd.R_drewN | apply Kd.R_drew)); exact (Kd.R_mono (Kd.R_far (p := ⟨gb233, 2, none⟩) (Kd.R_far (p := ⟨gb233, 1, none⟩) (Kd.R_far (p := ⟨gb233, 0, none⟩) (Kd.R_mono HO_3.out (fun k_ hk => (⟨hk, hk.2⟩ : _ ∧ k_ ≠ gb233))) (fun _ hk => hk.2) (.int .i64 ((rd_T41 t223 (ji19)).f0))) (fun _ hk => hk.2) (.int .i64 ((rd_T41 t223 (ji19)).f1))) (fun _ hk => hk.2) (.int .i64 ((rd_T41 t223 (ji19)).f2))) (fun _ h_ => h_.1))) hb); have n1_ := Aside0.mk (Kd.N_elder' (by (with_reducible repeat (first | apply Kd.N_alloc | apply Kd.N_drewN | apply Kd.N_drew)); exact (Kd.N_mono (Kd.N_far (p := ⟨gb233, 2, none⟩) (Kd.N_far (p := ⟨gb233, 1, none⟩) (Kd.N_far (p := ⟨gb233, 0, none⟩) (Kd.N_mono HO_4.out (fun k_ hk => (⟨hk, hk.2⟩ : _ ∧ k_ ≠ gb233))) (fun _ hk => hk.2) (.int .i64 ((rd_T41 t223 (ji19)).f0))) (fun _ hk => hk.2) (.int .i64 ((rd_T41 t223 (ji19)).f1))) (fun _ hk => hk.2) (.int .i64 ((rd_T41 t223 (ji19)).f2))) (fun _ h_ => h_.1))) (Kd.R_base ho27) hb); have n2_ := Aside0.mk (Kd.N_elder' (by (with_reducible repeat (first | apply Kd.N_alloc | apply Kd.N_drewN | apply Kd.N_drew)); exact (Kd.N_mono (Kd.N_far (p := ⟨gb233, 2, none⟩) (Kd.N_far (p := ⟨gb233, 1, none⟩) (Kd.N_far (p := ⟨gb233, 0, none⟩) (Kd.N_mono HO_5.out (fun k_ hk => (⟨hk, hk.2⟩ : _ ∧ k_ ≠ gb233))) (fun _ hk => hk.2) (.int .i64 ((rd_T41 t223 (ji19)).f0))) (fun _ hk => hk.2) (.int .i64 ((rd_T41 t223 (ji19)).f1))) (fun _ hk => hk.2) (.int .i64 ((rd_T41 t223 (ji19)).f2))) (fun _ h_ => h_.1))) (Kd.R_base ho27) hb); have n3_ := Aside0.mk (Kd.R_lower ho27 (below_size (by repeat (first | (with_reducible first | exact HB.out | apply below_alloc | apply pw_below_drewN | apply below_drew1 | refine below_set ?_ GE233.out) | exact HB.out)))); have n4_ := Aside0.mk (blk_below (g := gb233) (o := .cells #[.int .i64 ((rd_T41 t223 (ji19)).f0), .int .i64 ((rd_T41 t223 (ji19)).f1), .int .i64 ((rd_T41 t223 (ji19)).f2)] 41 (0, 0)) (by (with_reducible repeat (first | refine blk_drewN ?_ _ | refine blk_drew ?_ | refine blk_alloc ?_ _)); refine blk_put (cs := #[.int .i64 ((rd_T41 t223 (ji19)).f0), .int .i64 ((rd_T41 t223 (ji19)).f1), .int .i64 0]) ?_ 2 _ rfl; (with_reducible repeat (first | refine blk_drewN ?_ _ | refine blk_drew ?_ | refine blk_alloc ?_ _)); refine blk_put (cs := #[.int .i64 ((rd_T41 t223 (ji19)).f0), .int .i64 0, .int .i64 0]) ?_ 1 _ rfl; (with_reducible repeat (first | refine blk_drewN ?_ _ | refine blk_drew ?_ | refine blk_alloc ?_ _)); refine blk_put (cs := #[.int .i64 0, .int .i64 0, .int .i64 0]) ?_ 0 _ rfl; (with_reducible repeat (first | refine blk_drewN ?_ _ | refine blk_drew ?_ | refine blk_alloc ?_ _)); exact BK233.out) hb); have n5_ := Aside0.mk (below_step (by repeat (first | (with_reducible first | exact HB.out | apply below_alloc | apply pw_below_drewN | apply below_drew1 | refine below_set ?_ GE233.out) | exact HB.out)) hb); clear HO_3; clear HO_4; clear HO_5; clear BK233; clear HB; have HO_3 := n0_; have HO_4 := n1_; have HO_5 := n2_; have HO236 := n3_; have BK233 := n4_; have HB := n5_; clear n0_ n1_ n2_ n3_ n4_ n5_; clear hb ho27; have hcz28_0 : w26.cell? ⟨gb233, 0, none⟩ = some (.int .i64 ((rd_T41 t223 (ji19)).f0)) := (blk_cell BK233.out 0).trans rfl; have hcz28_1 : w26.cell? ⟨gb233, 1, none⟩ = some (.int .i64 ((rd_T41 t223 (ji19)).f1)) := (blk_cell BK233.out 1).trans rfl; have hcz28_2 : w26.cell? ⟨gb233, 2, none⟩ = some (.int .i64 ((rd_T41 t223 (ji19)).f2)) := (blk_cell BK233.out 2).trans rfl; have hfz28_0 := blk_frozen BK233.out 0; have hfz28_1 := blk_frozen BK233.out 1; have hfz28_2 := blk_frozen BK233.out 2))
       (try simp only [Act.put, List.setIfInBounds_toArray, List.set_cons_zero, List.set_cons_succ])
       go_cut [7] (fun v7 wc => ∃ (kq : Nat) (x7_21 : List Int), Aside0 (sobriquetlaw06_UcdMaps.j1 kq a0 t226 t229 x7_21 ((rd_T41 t223 (ji19)).f0) ((rd_T41 t223 (ji19)).f1) ((rd_T41 t223 (ji19)).f2) = some r) ∧ Aside0 (kq ≤ kj4) ∧ Aside0 (Kd.N k43 43 wc w.heap.size (fun k_ => some k_ ≠ (v230 : Value).ownBlock ∧ some k_ ≠ (v7 : Value).ownBlock ∧ k_ ≠ gb233) v227 t226) ∧ Aside0 (Kd.N k43 43 wc w.heap.size (fun k_ => some k_ ≠ (v227 : Value).ownBlock ∧ some k_ ≠ (v7 : Value).ownBlock ∧ k_ ≠ gb233) v230 t229) ∧ Aside0 (Kd.R (Kd.int .i64) 3 wc w.heap.size (fun _ => True) v7 x7_21) ∧ Aside0 (wc.heap[gb233]? = some (.cells #[.int .i64 ((rd_T41 t223 (ji19)).f0), .int .i64 ((rd_T41 t223 (ji19)).f1), .int .i64 ((rd_T41 t223 (ji19)).f2)] 41 (0, 0))) ∧ Aside0 (Below w.heap.size w wc))
       case first =>
        have H := HC22.out
        clear HC22
        by_cases c29 : ((rd_T41 t223 (ji19)).f2) = 0
        ·rw [if_pos c29] at H
         have c29b0 : (((rd_T41 t223 (ji19)).f2) == 0) = true := beq_iff_eq.mpr c29
         have c29b1 : (((rd_T41 t223 (ji19)).f2) != 0) = false := bne_eq_false_iff_eq.mpr c29
         clear c29
         (first | rw [c29b0] | (simp only [i64_w, i32_w]; rw [c29b0]) | skip)
         by_cases c30 : 1 ≤ (y234.length : Int)
         ·rw [if_pos c30] at H
          have c30b0 := eq_true c30
          have c30b1 : decide (1 ≤ (y234.length : Int)) = true := decide_eq_true c30
          clear c30
          obtain ⟨y237, hy237⟩ : ∃ y_ : List Int, y_ = (y234.take (1 : Int).toNat) := ⟨_, rfl⟩
          replace H : (sobriquetlaw06_UcdMaps.j1 kj4 a0 t226 t229 y237 ((rd_T41 t223 (ji19)).f0) ((rd_T41 t223 (ji19)).f1) ((rd_T41 t223 (ji19)).f2)) = some r := by first | (rw [hy237]; with_reducible exact H) | (have H2_ := (Option.bind_some _ _).symm.trans H; rw [hy237]; with_reducible exact H2_) | (have H2_ := (Option.bind_some _ _).symm.trans H; with_reducible exact H2_) | with_reducible exact H | (rw [hy237]; exact H) | exact H
          have Ny237 := Aside0.mk hy237
          clear hy237
          have H' := Aside0.mk H
          clear H
          obtain ⟨Ao31, co31, eo31⟩ := Kd.R_slice HO236.out
          subst eo31
          have q32 : (1 : Int) ≤ ((y234.length : Int) : Int) := of_decide_eq_true (by first | (with_reducible assumption) | assumption)
          obtain ⟨i032, hi032, _, hsz32, _⟩ := info_parts info3
          have hcut32 := cut_to (P := Try.prog) 33 3 .i64 Try.underlying33 hi032 Ao31 y234.length co31 1 (by omega) q32 (Kd.R_reads' HO236.out).2.1
          have hr32 := Kd.R_take (m := (1 : Int).toNat) HO236.out (by omega)
          have hy32 : y237.length = (1 : Int).toNat := (by rw [Ny237.out, List.length_take]; omega)
          rw [← Ny237.out] at hr32
          rw [← hy32] at hr32 hcut32
          clear hy32 hi032 hsz32 HO236
          have HO239 := Aside0.mk hr32
          clear hr32
          replace q32 := eq_true q32
          go_wp2
          go_meet
          case rel => exact ⟨_, (y237), H', ⟨by have := HJ4.out; first | omega | exact Nat.le_refl _⟩, ⟨by (with_reducible repeat (first | apply Kd.N_alloc | apply Kd.N_drewN | apply Kd.N_drew)); exact Kd.N_mono HO_4.out (fun _ hk => ⟨hk.1.1.2, ⟨own_len hk.2, hk.1.2⟩⟩)⟩, ⟨by (with_reducible repeat (first | apply Kd.N_alloc | apply Kd.N_drewN | apply Kd.N_drew)); exact Kd.N_mono HO_5.out (fun _ hk => ⟨hk.1.1.2, ⟨own_len hk.2, hk.1.2⟩⟩)⟩, ⟨by (with_reducible repeat (first | apply Kd.R_alloc | apply Kd.R_drewN | apply Kd.R_drew)); exact HO239.out⟩, ⟨by (with_reducible repeat (first | refine blk_drewN ?_ _ | refine blk_drew ?_ | refine blk_alloc ?_ _)); exact BK233.out⟩, ⟨by repeat (first | (with_reducible first | exact HB.out | apply below_alloc | apply pw_below_drewN | apply below_drew1 | refine below_set ?_ GE233.out) | exact HB.out)⟩⟩
         ·rw [if_neg c30] at H
          exact absurd H (by simp)
        ·rw [if_neg c29] at H
         have c29b0 : (((rd_T41 t223 (ji19)).f2) == 0) = false := beq_eq_false_iff_ne.mpr c29
         have c29b1 : (((rd_T41 t223 (ji19)).f2) != 0) = true := bne_iff_ne.mpr c29
         (first | rw [c29b0] | (simp only [i64_w, i32_w]; rw [c29b0]) | skip)
         have H' := Aside0.mk H
         clear H
         go_wp2
         go_meet
         case rel => exact ⟨_, (y234), H', ⟨by have := HJ4.out; first | omega | exact Nat.le_refl _⟩, ⟨by (with_reducible repeat (first | apply Kd.N_alloc | apply Kd.N_drewN | apply Kd.N_drew)); exact Kd.N_mono HO_4.out (fun _ hk => ⟨hk.1.1.2, ⟨hk.2, hk.1.2⟩⟩)⟩, ⟨by (with_reducible repeat (first | apply Kd.N_alloc | apply Kd.N_drewN | apply Kd.N_drew)); exact Kd.N_mono HO_5.out (fun _ hk => ⟨hk.1.1.2, ⟨hk.2, hk.1.2⟩⟩)⟩, ⟨by (with_reducible repeat (first | apply Kd.R_alloc | apply Kd.R_drewN | apply Kd.R_drew)); exact HO236.out⟩, ⟨by (with_reducible repeat (first | refine blk_drewN ?_ _ | refine blk_drew ?_ | refine blk_alloc ?_ _)); exact BK233.out⟩, ⟨by repeat (first | (with_reducible first | exact HB.out | apply below_alloc | apply pw_below_drewN | apply below_drew1 | refine below_set ?_ GE233.out) | exact HB.out)⟩⟩
       case rest =>
        clear HC22
        try clear c1
        try clear c2
        try clear p2
        try clear q2
        try clear hx2
        try clear c3
        try clear q3
        try clear c5
        try clear p6
        try clear c9
        try clear c9b0
        try clear c9b1
        try clear c9b2
        try clear c11
        try clear c11b0
        try clear c11b1
        try clear c11b2
        try clear c17
        try clear c18
        try clear c18b0
        try clear c18b1
        try clear c20
        try clear c20b0
        try clear c21
        try clear c21b0
        try clear p23
        try clear q23
        try clear hx23
        try clear c24
        try clear c25
        try clear c26
        try clear c29
        try clear c29b0
        try clear c29b1
        try clear c30
        try clear c30b0
        try clear c30b1
        try clear q32
        try clear hcz25_0
        try clear hcz25_1
        try clear hcz25_2
        try clear hcz28_0
        try clear hcz28_1
        try clear hcz28_2
        try clear hfz25_0
        try clear hfz25_1
        try clear hfz25_2
        try clear hfz28_0
        try clear hfz28_1
        try clear hfz28_2
        try clear hx232_0
        try clear hx232_1
        try clear hx232_2
        try clear p2
        try clear p232
        try clear q232
        try clear q32
        obtain ⟨kq, x7_21, HA, HJ21, HO_4, HO_5, HO_7, BK233, HB⟩ := hcut
        cases kq with
        | zero => exact absurd HA.out (by simp [sobriquetlaw06_UcdMaps.j1])
        | succ kj21 =>
         have H := HA.out
         clear HA
         simp only [sobriquetlaw06_UcdMaps.j1] at H
         by_cases c33 : (IntKind.u64.wrap ((t226.length : Int))) = 0
         ·rw [if_pos c33] at H
          exact absurd H (by simp)
         ·rw [if_neg c33] at H
          have c33b0 : ((IntKind.u64.wrap ((t226.length : Int))) == 0) = false := beq_eq_false_iff_ne.mpr c33
          have c33b1 : ((IntKind.u64.wrap ((t226.length : Int))) != 0) = true := bne_iff_ne.mpr c33
          obtain ⟨ji34, hji34⟩ : ∃ j_ : Int, (wrap64 (Int.tmod (IntKind.u64.wrap (a0)) (IntKind.u64.wrap ((t226.length : Int))))) = j_ := ⟨_, rfl⟩
          replace H : (if 0 ≤ (ji34) then (if (ji34) < (t226.length : Int) then (if (IntKind.u64.wrap ((t229.length : Int))) = 0 then (none) else (if 0 ≤ (wrap64 (Int.tmod (IntKind.u64.wrap (a0)) (IntKind.u64.wrap ((t229.length : Int))))) then (if (wrap64 (Int.tmod (IntKind.u64.wrap (a0)) (IntKind.u64.wrap ((t229.length : Int))))) < (t229.length : Int) then ((ucd_Canon.f ((rd_T41 t223 (ji19)).f0)).bind fun t244 => ((sobriquetkeep_Ints.f kj21 t244 x7_21).bind fun t247 => (if t247 = true then ((ucd_Compat.f ((rd_T43 t226 (ji34)).f0)).bind fun t248 => ((sobriquetkeep_Ints.f kj21 t248 ((rd_T43 t226 (ji34)).f1)).bind fun t251 => (if t251 = true then ((ucd_Fold.f ((rd_T43 t229 (wrap64 (Int.tmod (IntKind.u64.wrap (a0)) (IntKind.u64.wrap ((t229.length : Int)))))).f0)).bind fun t252 => ((sobriquetkeep_Ints.f kj21 t252 ((rd_T43 t229 (wrap64 (Int.tmod (IntKind.u64.wrap (a0)) (IntKind.u64.wrap ((t229.length : Int)))))).f1)).bind fun t255 => (sobriquetlaw06_UcdMaps.j2 kj21 (!t255) ((rd_T43 t226 (ji34)).f0) ((rd_T43 t226 (ji34)).f1) ((rd_T43 t229 (wrap64 (Int.tmod (IntKind.u64.wrap (a0)) (IntKind.u64.wrap ((t229.length : Int)))))).f0) ((rd_T43 t229 (wrap64 (Int.tmod (IntKind.u64.wrap (a0)) (IntKind.u64.wrap ((t229.length : Int)))))).f1)))) else (sobriquetlaw06_UcdMaps.j2 kj21 true ((rd_T43 t226 (ji34)).f0) ((rd_T43 t226 (ji34)).f1) ((rd_T43 t229 (wrap64 (Int.tmod (IntKind.u64.wrap (a0)) (IntKind.u64.wrap ((t229.length : Int)))))).f0) ((rd_T43 t229 (wrap64 (Int.tmod (IntKind.u64.wrap (a0)) (IntKind.u64.wrap ((t229.length : Int)))))).f1))))) else (sobriquetlaw06_UcdMaps.j2 kj21 true ((rd_T43 t226 (ji34)).f0) ((rd_T43 t226 (ji34)).f1) ((rd_T43 t229 (wrap64 (Int.tmod (IntKind.u64.wrap (a0)) (IntKind.u64.wrap ((t229.length : Int)))))).f0) ((rd_T43 t229 (wrap64 (Int.tmod (IntKind.u64.wrap (a0)) (IntKind.u64.wrap ((t229.length : Int)))))).f1))))) else (none)) else (none))) else (none)) else (none)) = some r := by first | (rw [hji34] at H; exact H) | (simp only [hji34] at H ⊢; exact H)
          have hji34w : (IntKind.i64.wrap (Int.tmod (IntKind.u64.wrap (a0)) (IntKind.u64.wrap ((t226.length : Int))))) = ji34 := (i64_w _).trans hji34
          by_cases c35 : 0 ≤ (ji34)
          ·rw [if_pos c35] at H
           have c35b0 : decide (0 ≤ (ji34)) = true := decide_eq_true c35
           clear c35
           by_cases c36 : (ji34) < (t226.length : Int)
           ·rw [if_pos c36] at H
            have c36b0 : decide ((ji34) < (t226.length : Int)) = true := decide_eq_true c36
            clear c36
            by_cases c37 : (IntKind.u64.wrap ((t229.length : Int))) = 0
            ·rw [if_pos c37] at H
             exact absurd H (by simp)
            ·rw [if_neg c37] at H
             have c37b0 : ((IntKind.u64.wrap ((t229.length : Int))) == 0) = false := beq_eq_false_iff_ne.mpr c37
             have c37b1 : ((IntKind.u64.wrap ((t229.length : Int))) != 0) = true := bne_iff_ne.mpr c37
             obtain ⟨ji38, hji38⟩ : ∃ j_ : Int, (wrap64 (Int.tmod (IntKind.u64.wrap (a0)) (IntKind.u64.wrap ((t229.length : Int))))) = j_ := ⟨_, rfl⟩
             replace H : (if 0 ≤ (ji38) then (if (ji38) < (t229.length : Int) then ((ucd_Canon.f ((rd_T41 t223 (ji19)).f0)).bind fun t244 => ((sobriquetkeep_Ints.f kj21 t244 x7_21).bind fun t247 => (if t247 = true then ((ucd_Compat.f ((rd_T43 t226 (ji34)).f0)).bind fun t248 => ((sobriquetkeep_Ints.f kj21 t248 ((rd_T43 t226 (ji34)).f1)).bind fun t251 => (if t251 = true then ((ucd_Fold.f ((rd_T43 t229 (ji38)).f0)).bind fun t252 => ((sobriquetkeep_Ints.f kj21 t252 ((rd_T43 t229 (ji38)).f1)).bind fun t255 => (sobriquetlaw06_UcdMaps.j2 kj21 (!t255) ((rd_T43 t226 (ji34)).f0) ((rd_T43 t226 (ji34)).f1) ((rd_T43 t229 (ji38)).f0) ((rd_T43 t229 (ji38)).f1)))) else (sobriquetlaw06_UcdMaps.j2 kj21 true ((rd_T43 t226 (ji34)).f0) ((rd_T43 t226 (ji34)).f1) ((rd_T43 t229 (ji38)).f0) ((rd_T43 t229 (ji38)).f1))))) else (sobriquetlaw06_UcdMaps.j2 kj21 true ((rd_T43 t226 (ji34)).f0) ((rd_T43 t226 (ji34)).f1) ((rd_T43 t229 (ji38)).f0) ((rd_T43 t229 (ji38)).f1))))) else (none)) else (none)) = some r := by first | (rw [hji38] at H; exact H) | (simp only [hji38] at H ⊢; exact H)
             have hji38w : (IntKind.i64.wrap (Int.tmod (IntKind.u64.wrap (a0)) (IntKind.u64.wrap ((t229.length : Int))))) = ji38 := (i64_w _).trans hji38
             by_cases c39 : 0 ≤ (ji38)
             ·rw [if_pos c39] at H
              have c39b0 : decide (0 ≤ (ji38)) = true := decide_eq_true c39
              clear c39
              by_cases c40 : (ji38) < (t229.length : Int)
              ·rw [if_pos c40] at H
               have c40b0 : decide ((ji38) < (t229.length : Int)) = true := decide_eq_true c40
               clear c40
               have HC41 := Aside0.mk H
               clear H
               try go_wp2
               have n0_ := Aside0.mk (Kd.N_drew HO_4.out)
               have n1_ := Aside0.mk (Kd.N_drew HO_5.out)
               have n2_ := Aside0.mk (Kd.R_drew HO_7.out)
               have n3_ := Aside0.mk (blk_drew BK233.out)
               have n4_ := Aside0.mk (below_drew1 HB.out)
               clear HO_4
               clear HO_5
               clear HO_7
               clear BK233
               clear HB
               have HO_4 := n0_
               have HO_5 := n1_
               have HO_7 := n2_
               have BK233 := n3_
               have HB := n4_
               clear n0_ n1_ n2_ n3_ n4_
               obtain ⟨Ao43, co43, eo43⟩ := Kd.N_slice HO_4.out
               (first | subst eo43 | (injection eo43 with f1_ f2_ f3_; have f4_ := f1_.symm; have f5_ := f3_.symm; clear f1_ f2_ f3_; subst f4_; subst f5_))
               have p240 : 0 ≤ ((ji34) : Int) := of_decide_eq_true (by first | (with_reducible assumption) | assumption)
               have q240 : (ji34) < (t226.length : Int) := of_decide_eq_true (by first | (with_reducible assumption) | assumption)
               obtain ⟨ad240, A240_1, c240_1, e240, hx240_0, hx240_1, hl240_1, hi240_1⟩ := at_T43 (Kd.N_reads' HO_4.out).2.2 (ji34) p240 q240
               cases e240
               obtain ⟨ce240, hce240, hMe240, hcc240⟩ := Kd.N_get HO_4.out z43 (ji34) p240 (by first | exact q240 | exact of_decide_eq_true (by first | (with_reducible assumption) | assumption) | (have e_ := (Kd.N_reads' HO_4.out).1; omega))
               obtain ⟨ua240_1, uc240_1, rfl, ul240_1, ge240_1⟩ := k43_openF hMe240
               have hv240_1 := hcc240 1 _ rfl
               rw [add_field _ _ 1 (by omega)] at hv240_1
               replace hv240_1 := Option.some.inj (hv240_1.symm.trans hx240_1)
               injection hv240_1 with hva_ hvn_ hvc_
               rw [hva_] at ge240_1
               rw [hvc_] at ul240_1
               have HL240_1 := Aside0.mk (show Kd.V (Kd.int .i64) 3 _ w.heap.size _ _ ((rd_T43 t226 (ji34)).f1) from Kd.V_mk ul240_1 ge240_1)
               clear hva_ hvn_ hvc_ ge240_1 ul240_1
               clear hcc240 hce240
               have HR240_1 := Aside0.mk hi240_1
               have HC240_1 := Aside0.mk hl240_1
               clear hi240_1 hl240_1
               replace p240 := eq_true p240
               replace q240 := eq_true q240
               obtain ⟨Ao44, co44, eo44⟩ := Kd.N_slice HO_5.out
               (first | subst eo44 | (injection eo44 with f1_ f2_ f3_; have f4_ := f1_.symm; have f5_ := f3_.symm; clear f1_ f2_ f3_; subst f4_; subst f5_))
               have p241 : 0 ≤ ((ji38) : Int) := of_decide_eq_true (by first | (with_reducible assumption) | assumption)
               have q241 : (ji38) < (t229.length : Int) := of_decide_eq_true (by first | (with_reducible assumption) | assumption)
               obtain ⟨ad241, A241_1, c241_1, e241, hx241_0, hx241_1, hl241_1, hi241_1⟩ := at_T43 (Kd.N_reads' HO_5.out).2.2 (ji38) p241 q241
               cases e241
               obtain ⟨ce241, hce241, hMe241, hcc241⟩ := Kd.N_get HO_5.out z43 (ji38) p241 (by first | exact q241 | exact of_decide_eq_true (by first | (with_reducible assumption) | assumption) | (have e_ := (Kd.N_reads' HO_5.out).1; omega))
               obtain ⟨ua241_1, uc241_1, rfl, ul241_1, ge241_1⟩ := k43_openF hMe241
               have hv241_1 := hcc241 1 _ rfl
               rw [add_field _ _ 1 (by omega)] at hv241_1
               replace hv241_1 := Option.some.inj (hv241_1.symm.trans hx241_1)
               injection hv241_1 with hva_ hvn_ hvc_
               rw [hva_] at ge241_1
               rw [hvc_] at ul241_1
               have HL241_1 := Aside0.mk (show Kd.V (Kd.int .i64) 3 _ w.heap.size _ _ ((rd_T43 t229 (ji38)).f1) from Kd.V_mk ul241_1 ge241_1)
               clear hva_ hvn_ hvc_ ge241_1 ul241_1
               clear hcc241 hce241
               have HR241_1 := Aside0.mk hi241_1
               have HC241_1 := Aside0.mk hl241_1
               clear hi241_1 hl241_1
               replace p241 := eq_true p241
               replace q241 := eq_true q241
               refine start_ (n := 24) (S := fun w' => w'.cell? (ad240.add (((ji34)).toNat * 2)) = some (.int .i64 ((rd_T43 t226 (ji34)).f0)) ∧ w'.cell? ⟨(ad240.add (((ji34)).toNat * 2)).block, (ad240.add (((ji34)).toNat * 2)).off + 1, none⟩ = some (.slice A240_1 ((rd_T43 t226 (ji34)).f1).length c240_1) ∧ w'.cell? (ad241.add (((ji38)).toNat * 2)) = some (.int .i64 ((rd_T43 t229 (ji38)).f0)) ∧ w'.cell? ⟨(ad241.add (((ji38)).toNat * 2)).block, (ad241.add (((ji38)).toNat * 2)).off + 1, none⟩ = some (.slice A241_1 ((rd_T43 t229 (ji38)).f1).length c241_1)) (ds := []) #[false, false, false, false, false, false, false, false, false, false, false, false, false, false, false, false, false, false, false, false, false, false, false, false] (by kernel_rfl) rfl rfl ⟨hx240_0, hx240_1, hx241_0, hx241_1⟩ (fun hHeld => ?_); refine with_tabW sobriquetlaw06_UcdMaps.tab8 sobriquetlaw06_UcdMaps.bits8 (fun HT_ HW_ => ?_)
               generalize wc.drew = w42 at HO_4 HO_5 HO_7 BK233 HB HL240_1 HL241_1 HR240_1 HR241_1 hx240_0 hx240_1 hx241_0 hx241_1 hHeld ⊢
               refine pure_ (i := 0) (N := some 47) (v := ?_) (a' := ?_) #[true, false, false, false, false, false, false, false, false, false, false, false, false, false, false, false, false, false, false, false, false, false, false, false] rfl rfl (any_of HT_.out (by kernel_rfl)) (fun _ _ _ h => h) (Or.inl ⟨by rfl, ?_⟩) ?_ ?_
               rotate_left
               ·intro w'
                go_simp
                with_reducible rfl
               rotate_left
               ·simp only [Act.put, List.setIfInBounds_toArray, List.set_cons_zero, List.set_cons_succ, i64_w, i32_w]
                rfl
               refine pure_ (i := 1) (N := some 48) (v := ?_) (a' := ?_) #[true, true, false, false, false, false, false, false, false, false, false, false, false, false, false, false, false, false, false, false, false, false, false, false] rfl rfl (any_of HT_.out (by kernel_rfl)) (fun _ _ _ h => h) (Or.inl ⟨by rfl, ?_⟩) ?_ ?_
               rotate_left
               ·intro w'
                go_simp
                with_reducible rfl
               rotate_left
               ·simp only [Act.put, List.setIfInBounds_toArray, List.set_cons_zero, List.set_cons_succ, i64_w, i32_w]
                rfl
               refine pure_ (i := 2) (N := some 49) (v := ?_) (a' := ?_) #[true, true, true, false, false, false, false, false, false, false, false, false, false, false, false, false, false, false, false, false, false, false, false, false] rfl rfl (any_of HT_.out (by kernel_rfl)) (fun _ _ _ h => h) (Or.inl ⟨by rfl, ?_⟩) ?_ ?_
               rotate_left
               ·intro w'
                go_simp
                with_reducible rfl
               rotate_left
               ·simp only [Act.put, List.setIfInBounds_toArray, List.set_cons_zero, List.set_cons_succ, i64_w, i32_w]
                rfl
               refine pure_ (i := 3) (N := some 50) (v := ?_) (a' := ?_) #[true, true, true, true, false, false, false, false, false, false, false, false, false, false, false, false, false, false, false, false, false, false, false, false] rfl rfl (any_of HT_.out (by kernel_rfl)) (fun _ _ _ h => h) (Or.inl ⟨by rfl, ?_⟩) ?_ ?_
               rotate_left
               ·intro w'
                go_simp
                with_reducible rfl
               rotate_left
               ·simp only [Act.put, List.setIfInBounds_toArray, List.set_cons_zero, List.set_cons_succ, i64_w, i32_w]
                rfl
               refine pure_ (i := 4) (N := some 51) (v := ?_) (a' := ?_) #[true, true, true, true, true, false, false, false, false, false, false, false, false, false, false, false, false, false, false, false, false, false, false, false] rfl rfl (any_of HT_.out (by kernel_rfl)) (fun _ _ _ h => h) (Or.inl ⟨by rfl, ?_⟩) ?_ ?_
               rotate_left
               ·intro w'
                go_simp
                with_reducible rfl
               rotate_left
               ·simp only [Act.put, List.setIfInBounds_toArray, List.set_cons_zero, List.set_cons_succ, i64_w, i32_w]
                rfl
               refine pure_ (i := 5) (N := some 52) (v := ?_) (a' := ?_) #[true, true, true, true, true, true, false, false, false, false, false, false, false, false, false, false, false, false, false, false, false, false, false, false] rfl rfl (any_of HT_.out (by kernel_rfl)) (fun _ _ _ h => h) (Or.inl ⟨by rfl, ?_⟩) ?_ ?_
               rotate_left
               ·intro w'
                go_simp
                with_reducible rfl
               rotate_left
               ·simp only [Act.put, List.setIfInBounds_toArray, List.set_cons_zero, List.set_cons_succ, i64_w, i32_w]
                rfl
               refine pure_ (i := 6) (N := some 53) (v := ?_) (a' := ?_) #[true, true, true, true, true, true, true, false, false, false, false, false, false, false, false, false, false, false, false, false, false, false, false, false] rfl rfl (any_of HT_.out (by kernel_rfl)) (fun _ _ _ h => h) (Or.inl ⟨by rfl, ?_⟩) ?_ ?_
               rotate_left
               ·intro w'
                go_simp
                with_reducible rfl
               rotate_left
               ·simp only [Act.put, List.setIfInBounds_toArray, List.set_cons_zero, List.set_cons_succ, i64_w, i32_w]
                rfl
               refine pure_ (i := 7) (N := some 54) (v := ?_) (a' := ?_) #[true, true, true, true, true, true, true, true, false, false, false, false, false, false, false, false, false, false, false, false, false, false, false, false] rfl rfl (any_of HT_.out (by kernel_rfl)) (fun _ _ _ h => h) (Or.inl ⟨by rfl, ?_⟩) ?_ ?_
               rotate_left
               ·intro w'
                go_simp
                with_reducible rfl
               rotate_left
               ·simp only [Act.put, List.setIfInBounds_toArray, List.set_cons_zero, List.set_cons_succ, i64_w, i32_w]
                rfl
               refine pure_ (i := 8) (N := some 55) (v := ?_) (a' := ?_) #[true, true, true, true, true, true, true, true, true, false, false, false, false, false, false, false, false, false, false, false, false, false, false, false] rfl rfl (any_of HT_.out (by kernel_rfl)) (fun _ _ _ h => h) (Or.inl ⟨by rfl, ?_⟩) ?_ ?_
               rotate_left
               ·intro w'
                go_simp
                with_reducible rfl
               rotate_left
               ·simp only [Act.put, List.setIfInBounds_toArray, List.set_cons_zero, List.set_cons_succ, i64_w, i32_w]
                rfl
               refine pure_ (i := 10) (N := some 57) (v := ?_) (a' := ?_) #[true, true, true, true, true, true, true, true, true, false, true, false, false, false, false, false, false, false, false, false, false, false, false, false] rfl rfl (any_of HT_.out (by kernel_rfl)) (fun _ _ _ h => h) (Or.inl ⟨by rfl, ?_⟩) ?_ ?_
               rotate_left
               ·intro w'
                go_simp
                with_reducible rfl
               rotate_left
               ·simp only [Act.put, List.setIfInBounds_toArray, List.set_cons_zero, List.set_cons_succ, i64_w, i32_w]
                rfl
               refine pure_ (i := 11) (N := some 58) (v := ?_) (a' := ?_) #[true, true, true, true, true, true, true, true, true, false, true, true, false, false, false, false, false, false, false, false, false, false, false, false] rfl rfl (any_of HT_.out (by kernel_rfl)) (fun _ _ _ h => h) (Or.inl ⟨by rfl, ?_⟩) ?_ ?_
               rotate_left
               ·intro w'
                go_simp
                with_reducible rfl
               rotate_left
               ·simp only [Act.put, List.setIfInBounds_toArray, List.set_cons_zero, List.set_cons_succ, i64_w, i32_w]
                rfl
               refine pure_ (i := 12) (N := some 59) (v := ?_) (a' := ?_) #[true, true, true, true, true, true, true, true, true, false, true, true, true, false, false, false, false, false, false, false, false, false, false, false] rfl rfl (any_of HT_.out (by kernel_rfl)) (fun _ _ _ h => h) (Or.inl ⟨by rfl, ?_⟩) ?_ ?_
               rotate_left
               ·intro w'
                go_simp
                with_reducible rfl
               rotate_left
               ·simp only [Act.put, List.setIfInBounds_toArray, List.set_cons_zero, List.set_cons_succ, i64_w, i32_w]
                rfl
               refine pure_ (i := 13) (N := some 60) (v := ?_) (a' := ?_) #[true, true, true, true, true, true, true, true, true, false, true, true, true, true, false, false, false, false, false, false, false, false, false, false] rfl rfl (any_of HT_.out (by kernel_rfl)) (fun _ _ _ h => h) (Or.inl ⟨by rfl, ?_⟩) ?_ ?_
               rotate_left
               ·intro w'
                go_simp
                with_reducible rfl
               rotate_left
               ·simp only [Act.put, List.setIfInBounds_toArray, List.set_cons_zero, List.set_cons_succ, i64_w, i32_w]
                rfl
               refine pure_ (i := 14) (N := some 61) (v := ?_) (a' := ?_) #[true, true, true, true, true, true, true, true, true, false, true, true, true, true, true, false, false, false, false, false, false, false, false, false] rfl rfl (any_of HT_.out (by kernel_rfl)) (fun _ _ _ h => h) (Or.inl ⟨by rfl, ?_⟩) ?_ ?_
               rotate_left
               ·intro w'
                go_simp
                with_reducible rfl
               rotate_left
               ·simp only [Act.put, List.setIfInBounds_toArray, List.set_cons_zero, List.set_cons_succ, i64_w, i32_w]
                rfl
               refine pure_ (i := 15) (N := some 62) (v := ?_) (a' := ?_) #[true, true, true, true, true, true, true, true, true, false, true, true, true, true, true, true, false, false, false, false, false, false, false, false] rfl rfl (any_of HT_.out (by kernel_rfl)) (fun _ _ _ h => h) (Or.inl ⟨by rfl, ?_⟩) ?_ ?_
               rotate_left
               ·intro w'
                go_simp
                with_reducible rfl
               rotate_left
               ·simp only [Act.put, List.setIfInBounds_toArray, List.set_cons_zero, List.set_cons_succ, i64_w, i32_w]
                rfl
               refine pure_ (i := 16) (N := some 63) (v := ?_) (a' := ?_) #[true, true, true, true, true, true, true, true, true, false, true, true, true, true, true, true, true, false, false, false, false, false, false, false] rfl rfl (any_of HT_.out (by kernel_rfl)) (fun _ _ _ h => h) (Or.inl ⟨by rfl, ?_⟩) ?_ ?_
               rotate_left
               ·intro w'
                go_simp
                with_reducible rfl
               rotate_left
               ·simp only [Act.put, List.setIfInBounds_toArray, List.set_cons_zero, List.set_cons_succ, i64_w, i32_w]
                rfl
               refine pure_ (i := 17) (N := some 64) (v := ?_) (a' := ?_) #[true, true, true, true, true, true, true, true, true, false, true, true, true, true, true, true, true, true, false, false, false, false, false, false] rfl rfl (any_of HT_.out (by kernel_rfl)) (fun _ _ _ h => h) (Or.inl ⟨by rfl, ?_⟩) ?_ ?_
               rotate_left
               ·intro w'
                go_simp
                with_reducible rfl
               rotate_left
               ·simp only [Act.put, List.setIfInBounds_toArray, List.set_cons_zero, List.set_cons_succ, i64_w, i32_w]
                rfl
               refine pure_ (i := 18) (N := some 65) (v := ?_) (a' := ?_) #[true, true, true, true, true, true, true, true, true, false, true, true, true, true, true, true, true, true, true, false, false, false, false, false] rfl rfl (any_of HT_.out (by kernel_rfl)) (fun _ _ _ h => h) (Or.inl ⟨by rfl, ?_⟩) ?_ ?_
               rotate_left
               ·intro w'
                go_simp
                with_reducible rfl
               rotate_left
               ·simp only [Act.put, List.setIfInBounds_toArray, List.set_cons_zero, List.set_cons_succ, i64_w, i32_w]
                rfl
               refine take_ (i := 9) (N := some 56) (v := ?_) (a' := ?_) #[true, true, true, true, true, true, true, true, true, true, true, true, true, true, true, true, true, true, true, false, false, false, false, false] rfl rfl (take_ofW HT_.out HW_.out (by kernel_rfl)) (fun _ _ _ h => h) (Or.inl ⟨by rfl, ?_⟩) hHeld ?_ ?_
               rotate_left
               ·rintro w' ⟨s0, s1, s2, s3⟩
                go_simp
                with_reducible rfl
               rotate_left
               ·simp only [Act.put, List.setIfInBounds_toArray, List.set_cons_zero, List.set_cons_succ, i64_w, i32_w]
                rfl
               refine take_ (i := 19) (N := some 66) (v := ?_) (a' := ?_) #[true, true, true, true, true, true, true, true, true, true, true, true, true, true, true, true, true, true, true, true, false, false, false, false] rfl rfl (take_ofW HT_.out HW_.out (by kernel_rfl)) (fun _ _ _ h => h) (Or.inl ⟨by rfl, ?_⟩) hHeld ?_ ?_
               rotate_left
               ·rintro w' ⟨s0, s1, s2, s3⟩
                go_simp
                with_reducible rfl
               rotate_left
               ·simp only [Act.put, List.setIfInBounds_toArray, List.set_cons_zero, List.set_cons_succ, i64_w, i32_w]
                rfl
               refine join_ (σ := Nat × Nat) 2 #[true, true, true, true, true, true, true, true, true, true, true, true, true, true, true, true, true, true, true, true, true, true, false, false] (fun s_ => [(8, .pointer (some ⟨s_.1, 0, none⟩)), (9, .pointer (some ⟨s_.2, 0, none⟩))]) (fun s_ w' => (w'.cell? (ad240.add (((ji34)).toNat * 2)) = some (.int .i64 ((rd_T43 t226 (ji34)).f0)) ∧ w'.cell? ⟨(ad240.add (((ji34)).toNat * 2)).block, (ad240.add (((ji34)).toNat * 2)).off + 1, none⟩ = some (.slice A240_1 ((rd_T43 t226 (ji34)).f1).length c240_1) ∧ w'.cell? (ad241.add (((ji38)).toNat * 2)) = some (.int .i64 ((rd_T43 t229 (ji38)).f0)) ∧ w'.cell? ⟨(ad241.add (((ji38)).toNat * 2)).block, (ad241.add (((ji38)).toNat * 2)).off + 1, none⟩ = some (.slice A241_1 ((rd_T43 t229 (ji38)).f1).length c241_1)) ∧ (Kd.V (Kd.int .i64) 3 w' w.heap.size (fun k_ => some k_ ≠ (.slice (some ad240) t226.length co43 : Value).ownBlock ∧ some k_ ≠ (.slice (some ad241) t229.length co44 : Value).ownBlock ∧ some k_ ≠ (u7 : Value).ownBlock ∧ k_ ≠ gb233 ∧ k_ ≠ s_.1 ∧ k_ ≠ s_.2) (.slice A240_1 ((rd_T43 t226 (ji34)).f1).length c240_1) ((rd_T43 t226 (ji34)).f1)) ∧ (Kd.V (Kd.int .i64) 3 w' w.heap.size (fun k_ => some k_ ≠ (.slice (some ad240) t226.length co43 : Value).ownBlock ∧ some k_ ≠ (.slice (some ad241) t229.length co44 : Value).ownBlock ∧ some k_ ≠ (u7 : Value).ownBlock ∧ k_ ≠ gb233 ∧ k_ ≠ s_.1 ∧ k_ ≠ s_.2) (.slice A241_1 ((rd_T43 t229 (ji38)).f1).length c241_1) ((rd_T43 t229 (ji38)).f1)) ∧ (Kd.N k43 43 w' w.heap.size (fun k_ => some k_ ≠ (.slice (some ad241) t229.length co44 : Value).ownBlock ∧ some k_ ≠ (u7 : Value).ownBlock ∧ k_ ≠ gb233 ∧ k_ ≠ s_.1 ∧ k_ ≠ s_.2) (.slice (some ad240) t226.length co43) t226) ∧ (Kd.N k43 43 w' w.heap.size (fun k_ => some k_ ≠ (.slice (some ad240) t226.length co43 : Value).ownBlock ∧ some k_ ≠ (u7 : Value).ownBlock ∧ k_ ≠ gb233 ∧ k_ ≠ s_.1 ∧ k_ ≠ s_.2) (.slice (some ad241) t229.length co44) t229) ∧ (Kd.R (Kd.int .i64) 3 w' w.heap.size (fun _ => True) u7 x7_21) ∧ (w'.heap[gb233]? = some (.cells #[.int .i64 ((rd_T41 t223 (ji19)).f0), .int .i64 ((rd_T41 t223 (ji19)).f1), .int .i64 ((rd_T41 t223 (ji19)).f2)] 41 (0, 0))) ∧ (w'.heap[s_.1]? = some (.cells #[.int .i64 0, .slice none 0 0] 43 (0, 0))) ∧ (w'.heap[s_.2]? = some (.cells #[.int .i64 0, .slice none 0 0] 43 (0, 0))) ∧ (w.heap.size ≤ s_.1) ∧ (w.heap.size ≤ s_.1) ∧ (gb233 ≠ s_.1) ∧ (s_.1 ≠ gb233) ∧ (s_.2 ≠ s_.1) ∧ (s_.1 ≠ s_.2) ∧ (w.heap.size ≤ s_.2) ∧ (w.heap.size ≤ s_.2) ∧ (gb233 ≠ s_.2) ∧ (s_.2 ≠ gb233) ∧ (Below w.heap.size w w')) ?_ ?_
               rotate_left
               ·intro hCont
                refine two_ (i := 20) (j := 21) (Ni := some 8) (Nj := some 9) #[true, true, true, true, true, true, true, true, true, true, true, true, true, true, true, true, true, true, true, true, true, false, false, false] #[true, true, true, true, true, true, true, true, true, true, true, true, true, true, true, true, true, true, true, true, false, true, false, false] rfl rfl rfl rfl (two_of HT_.out (by kernel_rfl)) (by decide) (by decide) (fun K hK => ?_) (fun K hK => ?_)
                ·skip
                 refine box_step ?hg (N := 8) ?hd (cs := #[.int .i64 0, .slice none 0 0]) (t := 43) ?hr ?_; (case hd => rfl); (case hg => rfl); (case hr => first | (go_simp; done) | (go_simp; rfl))
                 intro gb242 hg w45 hbox hb
                 have HS0_ := (hb.cell (World.block_lt_of_cell? _ _ (hHeld.1))).trans (hHeld.1)
                 have HS1_ := (hb.cell (World.block_lt_of_cell? _ _ (hHeld.2.1))).trans (hHeld.2.1)
                 have HS2_ := (hb.cell (World.block_lt_of_cell? _ _ (hHeld.2.2.1))).trans (hHeld.2.2.1)
                 have HS3_ := (hb.cell (World.block_lt_of_cell? _ _ (hHeld.2.2.2))).trans (hHeld.2.2.2)
                 have n0_ := Aside0.mk (Kd.N_below (Kd.N_elderB (by (with_reducible repeat (first | apply Kd.N_alloc | apply Kd.N_drewN | apply Kd.N_drew)); exact HO_4.out) gb242 (Nat.le_of_eq hg.symm)) hb)
                 have n1_ := Aside0.mk (Kd.N_below (Kd.N_elderB (by (with_reducible repeat (first | apply Kd.N_alloc | apply Kd.N_drewN | apply Kd.N_drew)); exact HO_5.out) gb242 (Nat.le_of_eq hg.symm)) hb)
                 have n2_ := Aside0.mk (Kd.R_below (by (with_reducible repeat (first | apply Kd.R_alloc | apply Kd.R_drewN | apply Kd.R_drew)); exact HO_7.out) hb)
                 have n3_ := Aside0.mk (Kd.V_below (Kd.V_elderB (by (with_reducible repeat (first | apply Kd.V_alloc | apply Kd.V_drewN | apply Kd.V_drew)); exact HL240_1.out) gb242 (Nat.le_of_eq hg.symm)) hb)
                 have n4_ := Aside0.mk (Kd.V_below (Kd.V_elderB (by (with_reducible repeat (first | apply Kd.V_alloc | apply Kd.V_drewN | apply Kd.V_drew)); exact HL241_1.out) gb242 (Nat.le_of_eq hg.symm)) hb)
                 have n5_ := Aside0.mk (blk_below (g := gb233) (o := .cells #[.int .i64 ((rd_T41 t223 (ji19)).f0), .int .i64 ((rd_T41 t223 (ji19)).f1), .int .i64 ((rd_T41 t223 (ji19)).f2)] 41 (0, 0)) (by (with_reducible repeat (first | refine blk_drewN ?_ _ | refine blk_drew ?_ | refine blk_alloc ?_ _)); exact BK233.out) hb)
                 have n6_ := Aside0.mk (Kd.C_below (by repeat (first | (with_reducible exact HR240_1.out) | (with_reducible refine Kd.C_alloc ?_ _) | (with_reducible refine Kd.C_drewN ?_ _) | (with_reducible refine Kd.C_drew ?_) | exact HR240_1.out)) hb)
                 have n7_ := Aside0.mk (Kd.C_below (by repeat (first | (with_reducible exact HR241_1.out) | (with_reducible refine Kd.C_alloc ?_ _) | (with_reducible refine Kd.C_drewN ?_ _) | (with_reducible refine Kd.C_drew ?_) | exact HR241_1.out)) hb)
                 have n8_ := Aside0.mk (below_step (by repeat (first | (with_reducible first | exact HB.out | apply below_alloc | apply pw_below_drewN | apply below_drew1 | refine below_set ?_ GE233.out) | exact HB.out)) hb)
                 have n9_ := Aside0.mk (hbox)
                 have n10_ := Aside0.mk ((by rw [hg]; exact (below_size (by repeat (first | (with_reducible first | exact HB.out | apply below_alloc | apply pw_below_drewN | apply below_drew1 | refine below_set ?_ GE233.out) | exact HB.out))) : w.heap.size ≤ gb242))
                 have n11_ := Aside0.mk ((by rw [hg]; exact (below_size (by repeat (first | (with_reducible first | exact HB.out | apply below_alloc | apply pw_below_drewN | apply below_drew1 | refine below_set ?_ GE233.out) | exact HB.out))) : w.heap.size ≤ gb242))
                 have n12_ := Aside0.mk ((by rw [hg]; exact Nat.ne_of_lt (blk_lt (g := gb233) (o := .cells #[.int .i64 ((rd_T41 t223 (ji19)).f0), .int .i64 ((rd_T41 t223 (ji19)).f1), .int .i64 ((rd_T41 t223 (ji19)).f2)] 41 (0, 0)) (by (with_reducible repeat (first | refine blk_drewN ?_ _ | refine blk_drew ?_ | refine blk_alloc ?_ _)); exact BK233.out)) : gb233 ≠ gb242))
                 have n13_ := Aside0.mk ((by rw [hg]; exact Nat.ne_of_gt (blk_lt (g := gb233) (o := .cells #[.int .i64 ((rd_T41 t223 (ji19)).f0), .int .i64 ((rd_T41 t223 (ji19)).f1), .int .i64 ((rd_T41 t223 (ji19)).f2)] 41 (0, 0)) (by (with_reducible repeat (first | refine blk_drewN ?_ _ | refine blk_drew ?_ | refine blk_alloc ?_ _)); exact BK233.out)) : gb242 ≠ gb233))
                 clear HO_4
                 clear HO_5
                 clear HO_7
                 clear HL240_1
                 clear HL241_1
                 clear BK233
                 clear HR240_1
                 clear HR241_1
                 clear HB
                 have HO_4 := n0_
                 have HO_5 := n1_
                 have HO_7 := n2_
                 have HL240_1 := n3_
                 have HL241_1 := n4_
                 have BK233 := n5_
                 have HR240_1 := n6_
                 have HR241_1 := n7_
                 have HB := n8_
                 have BK242 := n9_
                 have GW242 := n10_
                 have GE242 := n11_
                 have NB233_242 := n12_
                 have NB242_233 := n13_
                 clear n0_ n1_ n2_ n3_ n4_ n5_ n6_ n7_ n8_ n9_ n10_ n11_ n12_ n13_
                 clear hb hbox hg
                 refine hK.out _ _ ⟨HS0_, HS1_, HS2_, HS3_⟩ (fun hHeld => ?_)
                 clear hK K
                 refine norm_ (a' := ?_) ?_ ?_
                 rotate_left
                 ·show Act.put _ (some 8) _ = _
                  simp only [Act.put, List.setIfInBounds_toArray, List.set_cons_zero, List.set_cons_succ, i64_w, i32_w]
                  rfl
                 refine one_ (i := 21) (N := some 9) #[true, true, true, true, true, true, true, true, true, true, true, true, true, true, true, true, true, true, true, true, true, true, false, false] rfl rfl (one_of HT_.out (by kernel_rfl)) (by decide) (fun K hK => ?_)
                 refine box_step ?hg (N := 9) ?hd (cs := #[.int .i64 0, .slice none 0 0]) (t := 43) ?hr ?_; (case hd => rfl); (case hg => rfl); (case hr => first | (go_simp; done) | (go_simp; rfl))
                 intro gb243 hg w46 hbox hb
                 have HS0_ := (hb.cell (World.block_lt_of_cell? _ _ (hHeld.1))).trans (hHeld.1)
                 have HS1_ := (hb.cell (World.block_lt_of_cell? _ _ (hHeld.2.1))).trans (hHeld.2.1)
                 have HS2_ := (hb.cell (World.block_lt_of_cell? _ _ (hHeld.2.2.1))).trans (hHeld.2.2.1)
                 have HS3_ := (hb.cell (World.block_lt_of_cell? _ _ (hHeld.2.2.2))).trans (hHeld.2.2.2)
                 have n0_ := Aside0.mk (Kd.N_below (Kd.N_elderB (by (with_reducible repeat (first | apply Kd.N_alloc | apply Kd.N_drewN | apply Kd.N_drew)); exact HO_4.out) gb243 (Nat.le_of_eq hg.symm)) hb)
                 have n1_ := Aside0.mk (Kd.N_below (Kd.N_elderB (by (with_reducible repeat (first | apply Kd.N_alloc | apply Kd.N_drewN | apply Kd.N_drew)); exact HO_5.out) gb243 (Nat.le_of_eq hg.symm)) hb)
                 have n2_ := Aside0.mk (Kd.R_below (by (with_reducible repeat (first | apply Kd.R_alloc | apply Kd.R_drewN | apply Kd.R_drew)); exact HO_7.out) hb)
                 have n3_ := Aside0.mk (Kd.V_below (Kd.V_elderB (by (with_reducible repeat (first | apply Kd.V_alloc | apply Kd.V_drewN | apply Kd.V_drew)); exact HL240_1.out) gb243 (Nat.le_of_eq hg.symm)) hb)
                 have n4_ := Aside0.mk (Kd.V_below (Kd.V_elderB (by (with_reducible repeat (first | apply Kd.V_alloc | apply Kd.V_drewN | apply Kd.V_drew)); exact HL241_1.out) gb243 (Nat.le_of_eq hg.symm)) hb)
                 have n5_ := Aside0.mk (blk_below (g := gb233) (o := .cells #[.int .i64 ((rd_T41 t223 (ji19)).f0), .int .i64 ((rd_T41 t223 (ji19)).f1), .int .i64 ((rd_T41 t223 (ji19)).f2)] 41 (0, 0)) (by (with_reducible repeat (first | refine blk_drewN ?_ _ | refine blk_drew ?_ | refine blk_alloc ?_ _)); exact BK233.out) hb)
                 have n6_ := Aside0.mk (Kd.C_below (by repeat (first | (with_reducible exact HR240_1.out) | (with_reducible refine Kd.C_alloc ?_ _) | (with_reducible refine Kd.C_drewN ?_ _) | (with_reducible refine Kd.C_drew ?_) | exact HR240_1.out)) hb)
                 have n7_ := Aside0.mk (Kd.C_below (by repeat (first | (with_reducible exact HR241_1.out) | (with_reducible refine Kd.C_alloc ?_ _) | (with_reducible refine Kd.C_drewN ?_ _) | (with_reducible refine Kd.C_drew ?_) | exact HR241_1.out)) hb)
                 have n8_ := Aside0.mk (blk_below (g := gb242) (o := .cells #[.int .i64 0, .slice none 0 0] 43 (0, 0)) (by (with_reducible repeat (first | refine blk_drewN ?_ _ | refine blk_drew ?_ | refine blk_alloc ?_ _)); exact BK242.out) hb)
                 have n9_ := Aside0.mk (below_step (by repeat (first | (with_reducible first | exact HB.out | apply below_alloc | apply pw_below_drewN | apply below_drew1 | refine below_set ?_ GE233.out | refine below_set ?_ GE242.out) | exact HB.out)) hb)
                 have n10_ := Aside0.mk (hbox)
                 have n11_ := Aside0.mk ((by rw [hg]; exact (below_size (by repeat (first | (with_reducible first | exact HB.out | apply below_alloc | apply pw_below_drewN | apply below_drew1 | refine below_set ?_ GE233.out | refine below_set ?_ GE242.out) | exact HB.out))) : w.heap.size ≤ gb243))
                 have n12_ := Aside0.mk ((by rw [hg]; exact (below_size (by repeat (first | (with_reducible first | exact HB.out | apply below_alloc | apply pw_below_drewN | apply below_drew1 | refine below_set ?_ GE233.out | refine below_set ?_ GE242.out) | exact HB.out))) : w.heap.size ≤ gb243))
                 have n13_ := Aside0.mk ((by rw [hg]; exact Nat.ne_of_lt (blk_lt (g := gb233) (o := .cells #[.int .i64 ((rd_T41 t223 (ji19)).f0), .int .i64 ((rd_T41 t223 (ji19)).f1), .int .i64 ((rd_T41 t223 (ji19)).f2)] 41 (0, 0)) (by (with_reducible repeat (first | refine blk_drewN ?_ _ | refine blk_drew ?_ | refine blk_alloc ?_ _)); exact BK233.out)) : gb233 ≠ gb243))
                 have n14_ := Aside0.mk ((by rw [hg]; exact Nat.ne_of_gt (blk_lt (g := gb233) (o := .cells #[.int .i64 ((rd_T41 t223 (ji19)).f0), .int .i64 ((rd_T41 t223 (ji19)).f1), .int .i64 ((rd_T41 t223 (ji19)).f2)] 41 (0, 0)) (by (with_reducible repeat (first | refine blk_drewN ?_ _ | refine blk_drew ?_ | refine blk_alloc ?_ _)); exact BK233.out)) : gb243 ≠ gb233))
                 have n15_ := Aside0.mk ((by rw [hg]; exact Nat.ne_of_lt (blk_lt (g := gb242) (o := .cells #[.int .i64 0, .slice none 0 0] 43 (0, 0)) (by (with_reducible repeat (first | refine blk_drewN ?_ _ | refine blk_drew ?_ | refine blk_alloc ?_ _)); exact BK242.out)) : gb242 ≠ gb243))
                 have n16_ := Aside0.mk ((by rw [hg]; exact Nat.ne_of_gt (blk_lt (g := gb242) (o := .cells #[.int .i64 0, .slice none 0 0] 43 (0, 0)) (by (with_reducible repeat (first | refine blk_drewN ?_ _ | refine blk_drew ?_ | refine blk_alloc ?_ _)); exact BK242.out)) : gb243 ≠ gb242))
                 clear HO_4
                 clear HO_5
                 clear HO_7
                 clear HL240_1
                 clear HL241_1
                 clear BK233
                 clear HR240_1
                 clear HR241_1
                 clear BK242
                 clear HB
                 have HO_4 := n0_
                 have HO_5 := n1_
                 have HO_7 := n2_
                 have HL240_1 := n3_
                 have HL241_1 := n4_
                 have BK233 := n5_
                 have HR240_1 := n6_
                 have HR241_1 := n7_
                 have BK242 := n8_
                 have HB := n9_
                 have BK243 := n10_
                 have GW243 := n11_
                 have GE243 := n12_
                 have NB233_243 := n13_
                 have NB243_233 := n14_
                 have NB242_243 := n15_
                 have NB243_242 := n16_
                 clear n0_ n1_ n2_ n3_ n4_ n5_ n6_ n7_ n8_ n9_ n10_ n11_ n12_ n13_ n14_ n15_ n16_
                 clear hb hbox hg
                 refine hK.out _ _ ⟨HS0_, HS1_, HS2_, HS3_⟩ (fun hHeld => ?_)
                 clear hK K
                 refine norm_ (a' := ?_) ?_ ?_
                 rotate_left
                 ·show Act.put _ (some 9) _ = _
                  simp only [Act.put, List.setIfInBounds_toArray, List.set_cons_zero, List.set_cons_succ, i64_w, i32_w]
                  rfl
                 exact norm_ (by simp only [putAll, Act.put, List.setIfInBounds_toArray, List.set_cons_zero, List.set_cons_succ]) (hCont (gb242, gb243) _ ⟨hHeld, (by (with_reducible repeat (first | apply Kd.V_alloc | apply Kd.V_drewN | apply Kd.V_drew)); exact Kd.V_mono HL240_1.out (fun _ hk => ⟨hk.1.1.2, ⟨hk.1.1.1.1, ⟨hk.1.1.1.2.1, ⟨hk.1.1.1.2.2, ⟨hk.1.2, hk.2⟩⟩⟩⟩⟩)), (by (with_reducible repeat (first | apply Kd.V_alloc | apply Kd.V_drewN | apply Kd.V_drew)); exact Kd.V_mono HL241_1.out (fun _ hk => ⟨hk.1.1.1.1, ⟨hk.1.1.2, ⟨hk.1.1.1.2.1, ⟨hk.1.1.1.2.2, ⟨hk.1.2, hk.2⟩⟩⟩⟩⟩)), (by (with_reducible repeat (first | apply Kd.N_alloc | apply Kd.N_drewN | apply Kd.N_drew)); exact Kd.N_mono HO_4.out (fun _ hk => ⟨hk.1.1.1, ⟨hk.1.1.2.1, ⟨hk.1.1.2.2, ⟨hk.1.2, hk.2⟩⟩⟩⟩)), (by (with_reducible repeat (first | apply Kd.N_alloc | apply Kd.N_drewN | apply Kd.N_drew)); exact Kd.N_mono HO_5.out (fun _ hk => ⟨hk.1.1.1, ⟨hk.1.1.2.1, ⟨hk.1.1.2.2, ⟨hk.1.2, hk.2⟩⟩⟩⟩)), (by (with_reducible repeat (first | apply Kd.R_alloc | apply Kd.R_drewN | apply Kd.R_drew)); exact HO_7.out), (by (with_reducible repeat (first | refine blk_drewN ?_ _ | refine blk_drew ?_ | refine blk_alloc ?_ _)); exact BK233.out), (by (with_reducible repeat (first | refine blk_drewN ?_ _ | refine blk_drew ?_ | refine blk_alloc ?_ _)); exact BK242.out), (by (with_reducible repeat (first | refine blk_drewN ?_ _ | refine blk_drew ?_ | refine blk_alloc ?_ _)); exact BK243.out), GW242.out, GE242.out, NB233_242.out, NB242_233.out, NB243_242.out, NB242_243.out, GW243.out, GE243.out, NB233_243.out, NB243_233.out, (by repeat (first | (with_reducible first | exact HB.out | apply below_alloc | apply pw_below_drewN | apply below_drew1 | refine below_set ?_ GE233.out | refine below_set ?_ GE242.out | refine below_set ?_ GE243.out) | exact HB.out))⟩)
                ·skip
                 refine box_step ?hg (N := 9) ?hd (cs := #[.int .i64 0, .slice none 0 0]) (t := 43) ?hr ?_; (case hd => rfl); (case hg => rfl); (case hr => first | (go_simp; done) | (go_simp; rfl))
                 intro gb243 hg w45 hbox hb
                 have HS0_ := (hb.cell (World.block_lt_of_cell? _ _ (hHeld.1))).trans (hHeld.1)
                 have HS1_ := (hb.cell (World.block_lt_of_cell? _ _ (hHeld.2.1))).trans (hHeld.2.1)
                 have HS2_ := (hb.cell (World.block_lt_of_cell? _ _ (hHeld.2.2.1))).trans (hHeld.2.2.1)
                 have HS3_ := (hb.cell (World.block_lt_of_cell? _ _ (hHeld.2.2.2))).trans (hHeld.2.2.2)
                 have n0_ := Aside0.mk (Kd.N_below (Kd.N_elderB (by (with_reducible repeat (first | apply Kd.N_alloc | apply Kd.N_drewN | apply Kd.N_drew)); exact HO_4.out) gb243 (Nat.le_of_eq hg.symm)) hb)
                 have n1_ := Aside0.mk (Kd.N_below (Kd.N_elderB (by (with_reducible repeat (first | apply Kd.N_alloc | apply Kd.N_drewN | apply Kd.N_drew)); exact HO_5.out) gb243 (Nat.le_of_eq hg.symm)) hb)
                 have n2_ := Aside0.mk (Kd.R_below (by (with_reducible repeat (first | apply Kd.R_alloc | apply Kd.R_drewN | apply Kd.R_drew)); exact HO_7.out) hb)
                 have n3_ := Aside0.mk (Kd.V_below (Kd.V_elderB (by (with_reducible repeat (first | apply Kd.V_alloc | apply Kd.V_drewN | apply Kd.V_drew)); exact HL240_1.out) gb243 (Nat.le_of_eq hg.symm)) hb)
                 have n4_ := Aside0.mk (Kd.V_below (Kd.V_elderB (by (with_reducible repeat (first | apply Kd.V_alloc | apply Kd.V_drewN | apply Kd.V_drew)); exact HL241_1.out) gb243 (Nat.le_of_eq hg.symm)) hb)
                 have n5_ := Aside0.mk (blk_below (g := gb233) (o := .cells #[.int .i64 ((rd_T41 t223 (ji19)).f0), .int .i64 ((rd_T41 t223 (ji19)).f1), .int .i64 ((rd_T41 t223 (ji19)).f2)] 41 (0, 0)) (by (with_reducible repeat (first | refine blk_drewN ?_ _ | refine blk_drew ?_ | refine blk_alloc ?_ _)); exact BK233.out) hb)
                 have n6_ := Aside0.mk (Kd.C_below (by repeat (first | (with_reducible exact HR240_1.out) | (with_reducible refine Kd.C_alloc ?_ _) | (with_reducible refine Kd.C_drewN ?_ _) | (with_reducible refine Kd.C_drew ?_) | exact HR240_1.out)) hb)
                 have n7_ := Aside0.mk (Kd.C_below (by repeat (first | (with_reducible exact HR241_1.out) | (with_reducible refine Kd.C_alloc ?_ _) | (with_reducible refine Kd.C_drewN ?_ _) | (with_reducible refine Kd.C_drew ?_) | exact HR241_1.out)) hb)
                 have n8_ := Aside0.mk (below_step (by repeat (first | (with_reducible first | exact HB.out | apply below_alloc | apply pw_below_drewN | apply below_drew1 | refine below_set ?_ GE233.out) | exact HB.out)) hb)
                 have n9_ := Aside0.mk (hbox)
                 have n10_ := Aside0.mk ((by rw [hg]; exact (below_size (by repeat (first | (with_reducible first | exact HB.out | apply below_alloc | apply pw_below_drewN | apply below_drew1 | refine below_set ?_ GE233.out) | exact HB.out))) : w.heap.size ≤ gb243))
                 have n11_ := Aside0.mk ((by rw [hg]; exact (below_size (by repeat (first | (with_reducible first | exact HB.out | apply below_alloc | apply pw_below_drewN | apply below_drew1 | refine below_set ?_ GE233.out) | exact HB.out))) : w.heap.size ≤ gb243))
                 have n12_ := Aside0.mk ((by rw [hg]; exact Nat.ne_of_lt (blk_lt (g := gb233) (o := .cells #[.int .i64 ((rd_T41 t223 (ji19)).f0), .int .i64 ((rd_T41 t223 (ji19)).f1), .int .i64 ((rd_T41 t223 (ji19)).f2)] 41 (0, 0)) (by (with_reducible repeat (first | refine blk_drewN ?_ _ | refine blk_drew ?_ | refine blk_alloc ?_ _)); exact BK233.out)) : gb233 ≠ gb243))
                 have n13_ := Aside0.mk ((by rw [hg]; exact Nat.ne_of_gt (blk_lt (g := gb233) (o := .cells #[.int .i64 ((rd_T41 t223 (ji19)).f0), .int .i64 ((rd_T41 t223 (ji19)).f1), .int .i64 ((rd_T41 t223 (ji19)).f2)] 41 (0, 0)) (by (with_reducible repeat (first | refine blk_drewN ?_ _ | refine blk_drew ?_ | refine blk_alloc ?_ _)); exact BK233.out)) : gb243 ≠ gb233))
                 clear HO_4
                 clear HO_5
                 clear HO_7
                 clear HL240_1
                 clear HL241_1
                 clear BK233
                 clear HR240_1
                 clear HR241_1
                 clear HB
                 have HO_4 := n0_
                 have HO_5 := n1_
                 have HO_7 := n2_
                 have HL240_1 := n3_
                 have HL241_1 := n4_
                 have BK233 := n5_
                 have HR240_1 := n6_
                 have HR241_1 := n7_
                 have HB := n8_
                 have BK243 := n9_
                 have GW243 := n10_
                 have GE243 := n11_
                 have NB233_243 := n12_
                 have NB243_233 := n13_
                 clear n0_ n1_ n2_ n3_ n4_ n5_ n6_ n7_ n8_ n9_ n10_ n11_ n12_ n13_
                 clear hb hbox hg
                 refine hK.out _ _ ⟨HS0_, HS1_, HS2_, HS3_⟩ (fun hHeld => ?_)
                 clear hK K
                 refine norm_ (a' := ?_) ?_ ?_
                 rotate_left
                 ·show Act.put _ (some 9) _ = _
                  simp only [Act.put, List.setIfInBounds_toArray, List.set_cons_zero, List.set_cons_succ, i64_w, i32_w]
                  rfl
                 refine one_ (i := 20) (N := some 8) #[true, true, true, true, true, true, true, true, true, true, true, true, true, true, true, true, true, true, true, true, true, true, false, false] rfl rfl (one_of HT_.out (by kernel_rfl)) (by decide) (fun K hK => ?_)
                 refine box_step ?hg (N := 8) ?hd (cs := #[.int .i64 0, .slice none 0 0]) (t := 43) ?hr ?_; (case hd => rfl); (case hg => rfl); (case hr => first | (go_simp; done) | (go_simp; rfl))
                 intro gb242 hg w46 hbox hb
                 have HS0_ := (hb.cell (World.block_lt_of_cell? _ _ (hHeld.1))).trans (hHeld.1)
                 have HS1_ := (hb.cell (World.block_lt_of_cell? _ _ (hHeld.2.1))).trans (hHeld.2.1)
                 have HS2_ := (hb.cell (World.block_lt_of_cell? _ _ (hHeld.2.2.1))).trans (hHeld.2.2.1)
                 have HS3_ := (hb.cell (World.block_lt_of_cell? _ _ (hHeld.2.2.2))).trans (hHeld.2.2.2)
                 have n0_ := Aside0.mk (Kd.N_below (Kd.N_elderB (by (with_reducible repeat (first | apply Kd.N_alloc | apply Kd.N_drewN | apply Kd.N_drew)); exact HO_4.out) gb242 (Nat.le_of_eq hg.symm)) hb)
                 have n1_ := Aside0.mk (Kd.N_below (Kd.N_elderB (by (with_reducible repeat (first | apply Kd.N_alloc | apply Kd.N_drewN | apply Kd.N_drew)); exact HO_5.out) gb242 (Nat.le_of_eq hg.symm)) hb)
                 have n2_ := Aside0.mk (Kd.R_below (by (with_reducible repeat (first | apply Kd.R_alloc | apply Kd.R_drewN | apply Kd.R_drew)); exact HO_7.out) hb)
                 have n3_ := Aside0.mk (Kd.V_below (Kd.V_elderB (by (with_reducible repeat (first | apply Kd.V_alloc | apply Kd.V_drewN | apply Kd.V_drew)); exact HL240_1.out) gb242 (Nat.le_of_eq hg.symm)) hb)
                 have n4_ := Aside0.mk (Kd.V_below (Kd.V_elderB (by (with_reducible repeat (first | apply Kd.V_alloc | apply Kd.V_drewN | apply Kd.V_drew)); exact HL241_1.out) gb242 (Nat.le_of_eq hg.symm)) hb)
                 have n5_ := Aside0.mk (blk_below (g := gb233) (o := .cells #[.int .i64 ((rd_T41 t223 (ji19)).f0), .int .i64 ((rd_T41 t223 (ji19)).f1), .int .i64 ((rd_T41 t223 (ji19)).f2)] 41 (0, 0)) (by (with_reducible repeat (first | refine blk_drewN ?_ _ | refine blk_drew ?_ | refine blk_alloc ?_ _)); exact BK233.out) hb)
                 have n6_ := Aside0.mk (Kd.C_below (by repeat (first | (with_reducible exact HR240_1.out) | (with_reducible refine Kd.C_alloc ?_ _) | (with_reducible refine Kd.C_drewN ?_ _) | (with_reducible refine Kd.C_drew ?_) | exact HR240_1.out)) hb)
                 have n7_ := Aside0.mk (Kd.C_below (by repeat (first | (with_reducible exact HR241_1.out) | (with_reducible refine Kd.C_alloc ?_ _) | (with_reducible refine Kd.C_drewN ?_ _) | (with_reducible refine Kd.C_drew ?_) | exact HR241_1.out)) hb)
                 have n8_ := Aside0.mk (blk_below (g := gb243) (o := .cells #[.int .i64 0, .slice none 0 0] 43 (0, 0)) (by (with_reducible repeat (first | refine blk_drewN ?_ _ | refine blk_drew ?_ | refine blk_alloc ?_ _)); exact BK243.out) hb)
                 have n9_ := Aside0.mk (below_step (by repeat (first | (with_reducible first | exact HB.out | apply below_alloc | apply pw_below_drewN | apply below_drew1 | refine below_set ?_ GE233.out | refine below_set ?_ GE243.out) | exact HB.out)) hb)
                 have n10_ := Aside0.mk (hbox)
                 have n11_ := Aside0.mk ((by rw [hg]; exact (below_size (by repeat (first | (with_reducible first | exact HB.out | apply below_alloc | apply pw_below_drewN | apply below_drew1 | refine below_set ?_ GE233.out | refine below_set ?_ GE243.out) | exact HB.out))) : w.heap.size ≤ gb242))
                 have n12_ := Aside0.mk ((by rw [hg]; exact (below_size (by repeat (first | (with_reducible first | exact HB.out | apply below_alloc | apply pw_below_drewN | apply below_drew1 | refine below_set ?_ GE233.out | refine below_set ?_ GE243.out) | exact HB.out))) : w.heap.size ≤ gb242))
                 have n13_ := Aside0.mk ((by rw [hg]; exact Nat.ne_of_lt (blk_lt (g := gb233) (o := .cells #[.int .i64 ((rd_T41 t223 (ji19)).f0), .int .i64 ((rd_T41 t223 (ji19)).f1), .int .i64 ((rd_T41 t223 (ji19)).f2)] 41 (0, 0)) (by (with_reducible repeat (first | refine blk_drewN ?_ _ | refine blk_drew ?_ | refine blk_alloc ?_ _)); exact BK233.out)) : gb233 ≠ gb242))
                 have n14_ := Aside0.mk ((by rw [hg]; exact Nat.ne_of_gt (blk_lt (g := gb233) (o := .cells #[.int .i64 ((rd_T41 t223 (ji19)).f0), .int .i64 ((rd_T41 t223 (ji19)).f1), .int .i64 ((rd_T41 t223 (ji19)).f2)] 41 (0, 0)) (by (with_reducible repeat (first | refine blk_drewN ?_ _ | refine blk_drew ?_ | refine blk_alloc ?_ _)); exact BK233.out)) : gb242 ≠ gb233))
                 have n15_ := Aside0.mk ((by rw [hg]; exact Nat.ne_of_lt (blk_lt (g := gb243) (o := .cells #[.int .i64 0, .slice none 0 0] 43 (0, 0)) (by (with_reducible repeat (first | refine blk_drewN ?_ _ | refine blk_drew ?_ | refine blk_alloc ?_ _)); exact BK243.out)) : gb243 ≠ gb242))
                 have n16_ := Aside0.mk ((by rw [hg]; exact Nat.ne_of_gt (blk_lt (g := gb243) (o := .cells #[.int .i64 0, .slice none 0 0] 43 (0, 0)) (by (with_reducible repeat (first | refine blk_drewN ?_ _ | refine blk_drew ?_ | refine blk_alloc ?_ _)); exact BK243.out)) : gb242 ≠ gb243))
                 clear HO_4
                 clear HO_5
                 clear HO_7
                 clear HL240_1
                 clear HL241_1
                 clear BK233
                 clear HR240_1
                 clear HR241_1
                 clear BK243
                 clear HB
                 have HO_4 := n0_
                 have HO_5 := n1_
                 have HO_7 := n2_
                 have HL240_1 := n3_
                 have HL241_1 := n4_
                 have BK233 := n5_
                 have HR240_1 := n6_
                 have HR241_1 := n7_
                 have BK243 := n8_
                 have HB := n9_
                 have BK242 := n10_
                 have GW242 := n11_
                 have GE242 := n12_
                 have NB233_242 := n13_
                 have NB242_233 := n14_
                 have NB243_242 := n15_
                 have NB242_243 := n16_
                 clear n0_ n1_ n2_ n3_ n4_ n5_ n6_ n7_ n8_ n9_ n10_ n11_ n12_ n13_ n14_ n15_ n16_
                 clear hb hbox hg
                 refine hK.out _ _ ⟨HS0_, HS1_, HS2_, HS3_⟩ (fun hHeld => ?_)
                 clear hK K
                 refine norm_ (a' := ?_) ?_ ?_
                 rotate_left
                 ·show Act.put _ (some 8) _ = _
                  simp only [Act.put, List.setIfInBounds_toArray, List.set_cons_zero, List.set_cons_succ, i64_w, i32_w]
                  rfl
                 exact norm_ (by simp only [putAll, Act.put, List.setIfInBounds_toArray, List.set_cons_zero, List.set_cons_succ]) (hCont (gb242, gb243) _ ⟨hHeld, (by (with_reducible repeat (first | apply Kd.V_alloc | apply Kd.V_drewN | apply Kd.V_drew)); exact Kd.V_mono HL240_1.out (fun _ hk => ⟨hk.1.1.2, ⟨hk.1.1.1.1, ⟨hk.1.1.1.2.1, ⟨hk.1.1.1.2.2, ⟨hk.2, hk.1.2⟩⟩⟩⟩⟩)), (by (with_reducible repeat (first | apply Kd.V_alloc | apply Kd.V_drewN | apply Kd.V_drew)); exact Kd.V_mono HL241_1.out (fun _ hk => ⟨hk.1.1.1.1, ⟨hk.1.1.2, ⟨hk.1.1.1.2.1, ⟨hk.1.1.1.2.2, ⟨hk.2, hk.1.2⟩⟩⟩⟩⟩)), (by (with_reducible repeat (first | apply Kd.N_alloc | apply Kd.N_drewN | apply Kd.N_drew)); exact Kd.N_mono HO_4.out (fun _ hk => ⟨hk.1.1.1, ⟨hk.1.1.2.1, ⟨hk.1.1.2.2, ⟨hk.2, hk.1.2⟩⟩⟩⟩)), (by (with_reducible repeat (first | apply Kd.N_alloc | apply Kd.N_drewN | apply Kd.N_drew)); exact Kd.N_mono HO_5.out (fun _ hk => ⟨hk.1.1.1, ⟨hk.1.1.2.1, ⟨hk.1.1.2.2, ⟨hk.2, hk.1.2⟩⟩⟩⟩)), (by (with_reducible repeat (first | apply Kd.R_alloc | apply Kd.R_drewN | apply Kd.R_drew)); exact HO_7.out), (by (with_reducible repeat (first | refine blk_drewN ?_ _ | refine blk_drew ?_ | refine blk_alloc ?_ _)); exact BK233.out), (by (with_reducible repeat (first | refine blk_drewN ?_ _ | refine blk_drew ?_ | refine blk_alloc ?_ _)); exact BK242.out), (by (with_reducible repeat (first | refine blk_drewN ?_ _ | refine blk_drew ?_ | refine blk_alloc ?_ _)); exact BK243.out), GW242.out, GE242.out, NB233_242.out, NB242_233.out, NB243_242.out, NB242_243.out, GW243.out, GE243.out, NB233_243.out, NB243_233.out, (by repeat (first | (with_reducible first | exact HB.out | apply below_alloc | apply pw_below_drewN | apply below_drew1 | refine below_set ?_ GE233.out | refine below_set ?_ GE243.out | refine below_set ?_ GE242.out) | exact HB.out))⟩)
               rintro ⟨gb242, gb243⟩ w47 ⟨hS_, h0_, h1_, h2_, h3_, h4_, h5_, h6_, h7_, h8_, h9_, h10_, h11_, h12_, h13_, h14_, h15_, h16_, h17_, h18_⟩
               have n0_ : Aside0 (Kd.V (Kd.int .i64) 3 w47 w.heap.size (fun k_ => some k_ ≠ (.slice (some ad240) t226.length co43 : Value).ownBlock ∧ some k_ ≠ (.slice (some ad241) t229.length co44 : Value).ownBlock ∧ some k_ ≠ (u7 : Value).ownBlock ∧ k_ ≠ gb233 ∧ k_ ≠ gb242 ∧ k_ ≠ gb243) (.slice A240_1 ((rd_T43 t226 (ji34)).f1).length c240_1) ((rd_T43 t226 (ji34)).f1)) := ⟨h0_⟩
               have n1_ : Aside0 (Kd.V (Kd.int .i64) 3 w47 w.heap.size (fun k_ => some k_ ≠ (.slice (some ad240) t226.length co43 : Value).ownBlock ∧ some k_ ≠ (.slice (some ad241) t229.length co44 : Value).ownBlock ∧ some k_ ≠ (u7 : Value).ownBlock ∧ k_ ≠ gb233 ∧ k_ ≠ gb242 ∧ k_ ≠ gb243) (.slice A241_1 ((rd_T43 t229 (ji38)).f1).length c241_1) ((rd_T43 t229 (ji38)).f1)) := ⟨h1_⟩
               have n2_ : Aside0 (Kd.N k43 43 w47 w.heap.size (fun k_ => some k_ ≠ (.slice (some ad241) t229.length co44 : Value).ownBlock ∧ some k_ ≠ (u7 : Value).ownBlock ∧ k_ ≠ gb233 ∧ k_ ≠ gb242 ∧ k_ ≠ gb243) (.slice (some ad240) t226.length co43) t226) := ⟨h2_⟩
               have n3_ : Aside0 (Kd.N k43 43 w47 w.heap.size (fun k_ => some k_ ≠ (.slice (some ad240) t226.length co43 : Value).ownBlock ∧ some k_ ≠ (u7 : Value).ownBlock ∧ k_ ≠ gb233 ∧ k_ ≠ gb242 ∧ k_ ≠ gb243) (.slice (some ad241) t229.length co44) t229) := ⟨h3_⟩
               have n4_ : Aside0 (Kd.R (Kd.int .i64) 3 w47 w.heap.size (fun _ => True) u7 x7_21) := ⟨h4_⟩
               have n5_ : Aside0 (w47.heap[gb233]? = some (.cells #[.int .i64 ((rd_T41 t223 (ji19)).f0), .int .i64 ((rd_T41 t223 (ji19)).f1), .int .i64 ((rd_T41 t223 (ji19)).f2)] 41 (0, 0))) := ⟨h5_⟩
               have n6_ : Aside0 (w47.heap[gb242]? = some (.cells #[.int .i64 0, .slice none 0 0] 43 (0, 0))) := ⟨h6_⟩
               have n7_ : Aside0 (w47.heap[gb243]? = some (.cells #[.int .i64 0, .slice none 0 0] 43 (0, 0))) := ⟨h7_⟩
               have n8_ : Aside0 (w.heap.size ≤ gb242) := ⟨h8_⟩
               have n9_ : Aside0 (w.heap.size ≤ gb242) := ⟨h9_⟩
               have n10_ : Aside0 (gb233 ≠ gb242) := ⟨h10_⟩
               have n11_ : Aside0 (gb242 ≠ gb233) := ⟨h11_⟩
               have n12_ : Aside0 (gb243 ≠ gb242) := ⟨h12_⟩
               have n13_ : Aside0 (gb242 ≠ gb243) := ⟨h13_⟩
               have n14_ : Aside0 (w.heap.size ≤ gb243) := ⟨h14_⟩
               have n15_ : Aside0 (w.heap.size ≤ gb243) := ⟨h15_⟩
               have n16_ : Aside0 (gb233 ≠ gb243) := ⟨h16_⟩
               have n17_ : Aside0 (gb243 ≠ gb233) := ⟨h17_⟩
               have n18_ : Aside0 (Below w.heap.size w w47) := ⟨h18_⟩
               clear HO_4
               clear HO_5
               clear HO_7
               clear BK233
               clear HB
               clear h0_ h1_ h2_ h3_ h4_ h5_ h6_ h7_ h8_ h9_ h10_ h11_ h12_ h13_ h14_ h15_ h16_ h17_ h18_
               have HL240_1 := n0_
               have HL241_1 := n1_
               have HO_4 := n2_
               have HO_5 := n3_
               have HO_7 := n4_
               have BK233 := n5_
               have BK242 := n6_
               have BK243 := n7_
               have GW242 := n8_
               have GE242 := n9_
               have NB233_242 := n10_
               have NB242_233 := n11_
               have NB243_242 := n12_
               have NB242_243 := n13_
               have GW243 := n14_
               have GE243 := n15_
               have NB233_243 := n16_
               have NB243_233 := n17_
               have HB := n18_
               clear n0_ n1_ n2_ n3_ n4_ n5_ n6_ n7_ n8_ n9_ n10_ n11_ n12_ n13_ n14_ n15_ n16_ n17_ n18_
               have hHeld : w47.cell? (ad240.add (((ji34)).toNat * 2)) = some (.int .i64 ((rd_T43 t226 (ji34)).f0)) ∧ w47.cell? ⟨(ad240.add (((ji34)).toNat * 2)).block, (ad240.add (((ji34)).toNat * 2)).off + 1, none⟩ = some (.slice A240_1 ((rd_T43 t226 (ji34)).f1).length c240_1) ∧ w47.cell? (ad241.add (((ji38)).toNat * 2)) = some (.int .i64 ((rd_T43 t229 (ji38)).f0)) ∧ w47.cell? ⟨(ad241.add (((ji38)).toNat * 2)).block, (ad241.add (((ji38)).toNat * 2)).off + 1, none⟩ = some (.slice A241_1 ((rd_T43 t229 (ji38)).f1).length c241_1) := hS_
               refine norm_ (a' := ?_) ?_ ?_
               rotate_left
               ·simp only [putAll, Act.put, List.setIfInBounds_toArray, List.set_cons_zero, List.set_cons_succ]
                rfl
               refine one_ (i := 22) (N := none) #[true, true, true, true, true, true, true, true, true, true, true, true, true, true, true, true, true, true, true, true, true, true, true, false] rfl rfl (one_of HT_.out (by kernel_rfl)) (by decide) (fun K hK => ?_)
               have hs48 : w47.cell? ⟨gb242, 0, none⟩ = some (.int .i64 0) := (blk_cell BK242.out 0).trans rfl
               have hfs48 := blk_frozen BK242.out 0
               have hns48_0 := NB233_242.out
               have hns48_2 := NB243_242.out
               have hms48_0 := NB242_233.out
               have hms48_2 := NB242_243.out
               have hs49 : w47.cell? ⟨gb242, 1, none⟩ = some (.slice none 0 0) := (blk_cell BK242.out 1).trans rfl
               have hfs49 := blk_frozen BK242.out 1
               have hns49_0 := NB233_242.out
               have hns49_2 := NB243_242.out
               have hms49_0 := NB242_233.out
               have hms49_2 := NB242_243.out
               refine skip_ (w1 := ?_) (by rfl) rfl ?_ ?_
               rotate_left
               ·go_simp
                rfl
               refine hK.out _ _ ⟨((cell_far (p := ⟨gb242, _, none⟩) (by first | exact Kd.own_blk (Kd.N_away HO_4.out (fun _ hk => hk.2.2.2.1)) | (rw [add_block]; exact Kd.own_blk (Kd.N_away HO_4.out (fun _ hk => hk.2.2.2.1))) | (show (Addr.add _ _).block ≠ _; rw [add_block]; exact Kd.own_blk (Kd.N_away HO_4.out (fun _ hk => hk.2.2.2.1))) | (dsimp only; exact Kd.own_blk (Kd.N_away HO_4.out (fun _ hk => hk.2.2.2.1)))) _).trans (((cell_far (p := ⟨gb242, _, none⟩) (by first | exact Kd.own_blk (Kd.N_away HO_4.out (fun _ hk => hk.2.2.2.1)) | (rw [add_block]; exact Kd.own_blk (Kd.N_away HO_4.out (fun _ hk => hk.2.2.2.1))) | (show (Addr.add _ _).block ≠ _; rw [add_block]; exact Kd.own_blk (Kd.N_away HO_4.out (fun _ hk => hk.2.2.2.1))) | (dsimp only; exact Kd.own_blk (Kd.N_away HO_4.out (fun _ hk => hk.2.2.2.1)))) _).trans (hHeld.1)))), ((cell_far (p := ⟨gb242, _, none⟩) (by first | exact Kd.own_blk (Kd.N_away HO_4.out (fun _ hk => hk.2.2.2.1)) | (rw [add_block]; exact Kd.own_blk (Kd.N_away HO_4.out (fun _ hk => hk.2.2.2.1))) | (show (Addr.add _ _).block ≠ _; rw [add_block]; exact Kd.own_blk (Kd.N_away HO_4.out (fun _ hk => hk.2.2.2.1))) | (dsimp only; exact Kd.own_blk (Kd.N_away HO_4.out (fun _ hk => hk.2.2.2.1)))) _).trans (((cell_far (p := ⟨gb242, _, none⟩) (by first | exact Kd.own_blk (Kd.N_away HO_4.out (fun _ hk => hk.2.2.2.1)) | (rw [add_block]; exact Kd.own_blk (Kd.N_away HO_4.out (fun _ hk => hk.2.2.2.1))) | (show (Addr.add _ _).block ≠ _; rw [add_block]; exact Kd.own_blk (Kd.N_away HO_4.out (fun _ hk => hk.2.2.2.1))) | (dsimp only; exact Kd.own_blk (Kd.N_away HO_4.out (fun _ hk => hk.2.2.2.1)))) _).trans (hHeld.2.1)))), ((cell_far (p := ⟨gb242, _, none⟩) (by first | exact Kd.own_blk (Kd.N_away HO_5.out (fun _ hk => hk.2.2.2.1)) | (rw [add_block]; exact Kd.own_blk (Kd.N_away HO_5.out (fun _ hk => hk.2.2.2.1))) | (show (Addr.add _ _).block ≠ _; rw [add_block]; exact Kd.own_blk (Kd.N_away HO_5.out (fun _ hk => hk.2.2.2.1))) | (dsimp only; exact Kd.own_blk (Kd.N_away HO_5.out (fun _ hk => hk.2.2.2.1)))) _).trans (((cell_far (p := ⟨gb242, _, none⟩) (by first | exact Kd.own_blk (Kd.N_away HO_5.out (fun _ hk => hk.2.2.2.1)) | (rw [add_block]; exact Kd.own_blk (Kd.N_away HO_5.out (fun _ hk => hk.2.2.2.1))) | (show (Addr.add _ _).block ≠ _; rw [add_block]; exact Kd.own_blk (Kd.N_away HO_5.out (fun _ hk => hk.2.2.2.1))) | (dsimp only; exact Kd.own_blk (Kd.N_away HO_5.out (fun _ hk => hk.2.2.2.1)))) _).trans (hHeld.2.2.1)))), ((cell_far (p := ⟨gb242, _, none⟩) (by first | exact Kd.own_blk (Kd.N_away HO_5.out (fun _ hk => hk.2.2.2.1)) | (rw [add_block]; exact Kd.own_blk (Kd.N_away HO_5.out (fun _ hk => hk.2.2.2.1))) | (show (Addr.add _ _).block ≠ _; rw [add_block]; exact Kd.own_blk (Kd.N_away HO_5.out (fun _ hk => hk.2.2.2.1))) | (dsimp only; exact Kd.own_blk (Kd.N_away HO_5.out (fun _ hk => hk.2.2.2.1)))) _).trans (((cell_far (p := ⟨gb242, _, none⟩) (by first | exact Kd.own_blk (Kd.N_away HO_5.out (fun _ hk => hk.2.2.2.1)) | (rw [add_block]; exact Kd.own_blk (Kd.N_away HO_5.out (fun _ hk => hk.2.2.2.1))) | (show (Addr.add _ _).block ≠ _; rw [add_block]; exact Kd.own_blk (Kd.N_away HO_5.out (fun _ hk => hk.2.2.2.1))) | (dsimp only; exact Kd.own_blk (Kd.N_away HO_5.out (fun _ hk => hk.2.2.2.1)))) _).trans (hHeld.2.2.2))))⟩ (fun hHeld => ?_)
               clear hK K
               refine one_ (i := 23) (N := none) #[true, true, true, true, true, true, true, true, true, true, true, true, true, true, true, true, true, true, true, true, true, true, true, true] rfl rfl (one_of HT_.out (by kernel_rfl)) (by decide) (fun K hK => ?_)
               have hs50 : w47.cell? ⟨gb243, 0, none⟩ = some (.int .i64 0) := (blk_cell BK243.out 0).trans rfl
               have hfs50 := blk_frozen BK243.out 0
               have hns50_0 := NB233_243.out
               have hns50_1 := NB242_243.out
               have hms50_0 := NB243_233.out
               have hms50_1 := NB243_242.out
               have hs51 : w47.cell? ⟨gb243, 1, none⟩ = some (.slice none 0 0) := (blk_cell BK243.out 1).trans rfl
               have hfs51 := blk_frozen BK243.out 1
               have hns51_0 := NB233_243.out
               have hns51_1 := NB242_243.out
               have hms51_0 := NB243_233.out
               have hms51_1 := NB243_242.out
               refine skip_ (w1 := ?_) (by rfl) rfl ?_ ?_
               rotate_left
               ·go_simp
                rfl
               refine hK.out _ _ ⟨((cell_far (p := ⟨gb243, _, none⟩) (by first | exact Kd.own_blk (Kd.N_away HO_4.out (fun _ hk => hk.2.2.2.2)) | (rw [add_block]; exact Kd.own_blk (Kd.N_away HO_4.out (fun _ hk => hk.2.2.2.2))) | (show (Addr.add _ _).block ≠ _; rw [add_block]; exact Kd.own_blk (Kd.N_away HO_4.out (fun _ hk => hk.2.2.2.2))) | (dsimp only; exact Kd.own_blk (Kd.N_away HO_4.out (fun _ hk => hk.2.2.2.2)))) _).trans (((cell_far (p := ⟨gb243, _, none⟩) (by first | exact Kd.own_blk (Kd.N_away HO_4.out (fun _ hk => hk.2.2.2.2)) | (rw [add_block]; exact Kd.own_blk (Kd.N_away HO_4.out (fun _ hk => hk.2.2.2.2))) | (show (Addr.add _ _).block ≠ _; rw [add_block]; exact Kd.own_blk (Kd.N_away HO_4.out (fun _ hk => hk.2.2.2.2))) | (dsimp only; exact Kd.own_blk (Kd.N_away HO_4.out (fun _ hk => hk.2.2.2.2)))) _).trans (hHeld.1)))), ((cell_far (p := ⟨gb243, _, none⟩) (by first | exact Kd.own_blk (Kd.N_away HO_4.out (fun _ hk => hk.2.2.2.2)) | (rw [add_block]; exact Kd.own_blk (Kd.N_away HO_4.out (fun _ hk => hk.2.2.2.2))) | (show (Addr.add _ _).block ≠ _; rw [add_block]; exact Kd.own_blk (Kd.N_away HO_4.out (fun _ hk => hk.2.2.2.2))) | (dsimp only; exact Kd.own_blk (Kd.N_away HO_4.out (fun _ hk => hk.2.2.2.2)))) _).trans (((cell_far (p := ⟨gb243, _, none⟩) (by first | exact Kd.own_blk (Kd.N_away HO_4.out (fun _ hk => hk.2.2.2.2)) | (rw [add_block]; exact Kd.own_blk (Kd.N_away HO_4.out (fun _ hk => hk.2.2.2.2))) | (show (Addr.add _ _).block ≠ _; rw [add_block]; exact Kd.own_blk (Kd.N_away HO_4.out (fun _ hk => hk.2.2.2.2))) | (dsimp only; exact Kd.own_blk (Kd.N_away HO_4.out (fun _ hk => hk.2.2.2.2)))) _).trans (hHeld.2.1)))), ((cell_far (p := ⟨gb243, _, none⟩) (by first | exact Kd.own_blk (Kd.N_away HO_5.out (fun _ hk => hk.2.2.2.2)) | (rw [add_block]; exact Kd.own_blk (Kd.N_away HO_5.out (fun _ hk => hk.2.2.2.2))) | (show (Addr.add _ _).block ≠ _; rw [add_block]; exact Kd.own_blk (Kd.N_away HO_5.out (fun _ hk => hk.2.2.2.2))) | (dsimp only; exact Kd.own_blk (Kd.N_away HO_5.out (fun _ hk => hk.2.2.2.2)))) _).trans (((cell_far (p := ⟨gb243, _, none⟩) (by first | exact Kd.own_blk (Kd.N_away HO_5.out (fun _ hk => hk.2.2.2.2)) | (rw [add_block]; exact Kd.own_blk (Kd.N_away HO_5.out (fun _ hk => hk.2.2.2.2))) | (show (Addr.add _ _).block ≠ _; rw [add_block]; exact Kd.own_blk (Kd.N_away HO_5.out (fun _ hk => hk.2.2.2.2))) | (dsimp only; exact Kd.own_blk (Kd.N_away HO_5.out (fun _ hk => hk.2.2.2.2)))) _).trans (hHeld.2.2.1)))), ((cell_far (p := ⟨gb243, _, none⟩) (by first | exact Kd.own_blk (Kd.N_away HO_5.out (fun _ hk => hk.2.2.2.2)) | (rw [add_block]; exact Kd.own_blk (Kd.N_away HO_5.out (fun _ hk => hk.2.2.2.2))) | (show (Addr.add _ _).block ≠ _; rw [add_block]; exact Kd.own_blk (Kd.N_away HO_5.out (fun _ hk => hk.2.2.2.2))) | (dsimp only; exact Kd.own_blk (Kd.N_away HO_5.out (fun _ hk => hk.2.2.2.2)))) _).trans (((cell_far (p := ⟨gb243, _, none⟩) (by first | exact Kd.own_blk (Kd.N_away HO_5.out (fun _ hk => hk.2.2.2.2)) | (rw [add_block]; exact Kd.own_blk (Kd.N_away HO_5.out (fun _ hk => hk.2.2.2.2))) | (show (Addr.add _ _).block ≠ _; rw [add_block]; exact Kd.own_blk (Kd.N_away HO_5.out (fun _ hk => hk.2.2.2.2))) | (dsimp only; exact Kd.own_blk (Kd.N_away HO_5.out (fun _ hk => hk.2.2.2.2)))) _).trans (hHeld.2.2.2))))⟩ (fun hHeld => ?_)
               clear hK K
               refine done_ (done_of HT_.out (by kernel_rfl)) ?_
               go_upto_region 9 with (fail)
               go_cut [90] (fun v90 wc => ∃ (kq : Nat) (x90_40 : Bool), v90 = .bool x90_40 ∧ Aside0 (sobriquetlaw06_UcdMaps.j2 kq x90_40 ((rd_T43 t226 (ji34)).f0) ((rd_T43 t226 (ji34)).f1) ((rd_T43 t229 (ji38)).f0) ((rd_T43 t229 (ji38)).f1) = some r) ∧ Aside0 (kq ≤ kj21) ∧ Aside0 (wc.heap[gb233]? = some (.cells #[.int .i64 ((rd_T41 t223 (ji19)).f0), .int .i64 ((rd_T41 t223 (ji19)).f1), .int .i64 ((rd_T41 t223 (ji19)).f2)] 41 (0, 0))) ∧ Aside0 (wc.heap[gb242]? = some (.cells #[.int .i64 ((rd_T43 t226 (ji34)).f0), (.slice A240_1 ((rd_T43 t226 (ji34)).f1).length c240_1)] 43 (0, 0))) ∧ Aside0 (wc.heap[gb243]? = some (.cells #[.int .i64 ((rd_T43 t229 (ji38)).f0), (.slice A241_1 ((rd_T43 t229 (ji38)).f1).length c241_1)] 43 (0, 0))) ∧ Aside0 (Kd.V (Kd.int .i64) 3 wc w.heap.size (fun _ => True) (.slice A241_1 ((rd_T43 t229 (ji38)).f1).length c241_1) ((rd_T43 t229 (ji38)).f1)) ∧ Aside0 (Below w.heap.size w wc))
               case first =>
                have H := HC41.out
                clear HC41
                replace H := Option.bind_eq_some_iff.mp H
                obtain ⟨t244, A520, H⟩ := H
                replace H : ((sobriquetkeep_Ints.f kj21 t244 x7_21).bind fun t247 => (if t247 = true then ((ucd_Compat.f ((rd_T43 t226 (ji34)).f0)).bind fun t248 => ((sobriquetkeep_Ints.f kj21 t248 ((rd_T43 t226 (ji34)).f1)).bind fun t251 => (if t251 = true then ((ucd_Fold.f ((rd_T43 t229 (ji38)).f0)).bind fun t252 => ((sobriquetkeep_Ints.f kj21 t252 ((rd_T43 t229 (ji38)).f1)).bind fun t255 => (sobriquetlaw06_UcdMaps.j2 kj21 (!t255) ((rd_T43 t226 (ji34)).f0) ((rd_T43 t226 (ji34)).f1) ((rd_T43 t229 (ji38)).f0) ((rd_T43 t229 (ji38)).f1)))) else (sobriquetlaw06_UcdMaps.j2 kj21 true ((rd_T43 t226 (ji34)).f0) ((rd_T43 t226 (ji34)).f1) ((rd_T43 t229 (ji38)).f0) ((rd_T43 t229 (ji38)).f1))))) else (sobriquetlaw06_UcdMaps.j2 kj21 true ((rd_T43 t226 (ji34)).f0) ((rd_T43 t226 (ji34)).f1) ((rd_T43 t229 (ji38)).f0) ((rd_T43 t229 (ji38)).f1)))) = some r := H
                have A52 := Aside0.mk A520
                clear A520
                replace H := Option.bind_eq_some_iff.mp H
                obtain ⟨t247, A530, H⟩ := H
                replace H : (if t247 = true then ((ucd_Compat.f ((rd_T43 t226 (ji34)).f0)).bind fun t248 => ((sobriquetkeep_Ints.f kj21 t248 ((rd_T43 t226 (ji34)).f1)).bind fun t251 => (if t251 = true then ((ucd_Fold.f ((rd_T43 t229 (ji38)).f0)).bind fun t252 => ((sobriquetkeep_Ints.f kj21 t252 ((rd_T43 t229 (ji38)).f1)).bind fun t255 => (sobriquetlaw06_UcdMaps.j2 kj21 (!t255) ((rd_T43 t226 (ji34)).f0) ((rd_T43 t226 (ji34)).f1) ((rd_T43 t229 (ji38)).f0) ((rd_T43 t229 (ji38)).f1)))) else (sobriquetlaw06_UcdMaps.j2 kj21 true ((rd_T43 t226 (ji34)).f0) ((rd_T43 t226 (ji34)).f1) ((rd_T43 t229 (ji38)).f0) ((rd_T43 t229 (ji38)).f1))))) else (sobriquetlaw06_UcdMaps.j2 kj21 true ((rd_T43 t226 (ji34)).f0) ((rd_T43 t226 (ji34)).f1) ((rd_T43 t229 (ji38)).f0) ((rd_T43 t229 (ji38)).f1))) = some r := H
                have A53 := Aside0.mk A530
                clear A530
                by_cases c54 : t247 = true
                ·subst c54
                 have H1 : ((ucd_Compat.f ((rd_T43 t226 (ji34)).f0)).bind fun t248 => ((sobriquetkeep_Ints.f kj21 t248 ((rd_T43 t226 (ji34)).f1)).bind fun t251 => (if t251 = true then ((ucd_Fold.f ((rd_T43 t229 (ji38)).f0)).bind fun t252 => ((sobriquetkeep_Ints.f kj21 t252 ((rd_T43 t229 (ji38)).f1)).bind fun t255 => (sobriquetlaw06_UcdMaps.j2 kj21 (!t255) ((rd_T43 t226 (ji34)).f0) ((rd_T43 t226 (ji34)).f1) ((rd_T43 t229 (ji38)).f0) ((rd_T43 t229 (ji38)).f1)))) else (sobriquetlaw06_UcdMaps.j2 kj21 true ((rd_T43 t226 (ji34)).f0) ((rd_T43 t226 (ji34)).f1) ((rd_T43 t229 (ji38)).f0) ((rd_T43 t229 (ji38)).f1))))) = some r := by rw [if_pos rfl] at H; exact H
                 clear H
                 have H := H1
                 clear H1
                 replace H := Option.bind_eq_some_iff.mp H
                 obtain ⟨t248, A550, H⟩ := H
                 replace H : ((sobriquetkeep_Ints.f kj21 t248 ((rd_T43 t226 (ji34)).f1)).bind fun t251 => (if t251 = true then ((ucd_Fold.f ((rd_T43 t229 (ji38)).f0)).bind fun t252 => ((sobriquetkeep_Ints.f kj21 t252 ((rd_T43 t229 (ji38)).f1)).bind fun t255 => (sobriquetlaw06_UcdMaps.j2 kj21 (!t255) ((rd_T43 t226 (ji34)).f0) ((rd_T43 t226 (ji34)).f1) ((rd_T43 t229 (ji38)).f0) ((rd_T43 t229 (ji38)).f1)))) else (sobriquetlaw06_UcdMaps.j2 kj21 true ((rd_T43 t226 (ji34)).f0) ((rd_T43 t226 (ji34)).f1) ((rd_T43 t229 (ji38)).f0) ((rd_T43 t229 (ji38)).f1)))) = some r := H
                 have A55 := Aside0.mk A550
                 clear A550
                 replace H := Option.bind_eq_some_iff.mp H
                 obtain ⟨t251, A560, H⟩ := H
                 replace H : (if t251 = true then ((ucd_Fold.f ((rd_T43 t229 (ji38)).f0)).bind fun t252 => ((sobriquetkeep_Ints.f kj21 t252 ((rd_T43 t229 (ji38)).f1)).bind fun t255 => (sobriquetlaw06_UcdMaps.j2 kj21 (!t255) ((rd_T43 t226 (ji34)).f0) ((rd_T43 t226 (ji34)).f1) ((rd_T43 t229 (ji38)).f0) ((rd_T43 t229 (ji38)).f1)))) else (sobriquetlaw06_UcdMaps.j2 kj21 true ((rd_T43 t226 (ji34)).f0) ((rd_T43 t226 (ji34)).f1) ((rd_T43 t229 (ji38)).f0) ((rd_T43 t229 (ji38)).f1))) = some r := H
                 have A56 := Aside0.mk A560
                 clear A560
                 by_cases c57 : t251 = true
                 ·subst c57
                  have H1 : ((ucd_Fold.f ((rd_T43 t229 (ji38)).f0)).bind fun t252 => ((sobriquetkeep_Ints.f kj21 t252 ((rd_T43 t229 (ji38)).f1)).bind fun t255 => (sobriquetlaw06_UcdMaps.j2 kj21 (!t255) ((rd_T43 t226 (ji34)).f0) ((rd_T43 t226 (ji34)).f1) ((rd_T43 t229 (ji38)).f0) ((rd_T43 t229 (ji38)).f1)))) = some r := by rw [if_pos rfl] at H; exact H
                  clear H
                  have H := H1
                  clear H1
                  replace H := Option.bind_eq_some_iff.mp H
                  obtain ⟨t252, A580, H⟩ := H
                  replace H : ((sobriquetkeep_Ints.f kj21 t252 ((rd_T43 t229 (ji38)).f1)).bind fun t255 => (sobriquetlaw06_UcdMaps.j2 kj21 (!t255) ((rd_T43 t226 (ji34)).f0) ((rd_T43 t226 (ji34)).f1) ((rd_T43 t229 (ji38)).f0) ((rd_T43 t229 (ji38)).f1))) = some r := H
                  have A58 := Aside0.mk A580
                  clear A580
                  replace H := Option.bind_eq_some_iff.mp H
                  obtain ⟨t255, A590, H⟩ := H
                  replace H : (sobriquetlaw06_UcdMaps.j2 kj21 (!t255) ((rd_T43 t226 (ji34)).f0) ((rd_T43 t226 (ji34)).f1) ((rd_T43 t229 (ji38)).f0) ((rd_T43 t229 (ji38)).f1)) = some r := H
                  have A59 := Aside0.mk A590
                  clear A590
                  have H' := Aside0.mk H
                  clear H
                  try go_wp2
                  have n0_ : Aside0 (Kd.N k43 43 ((((w47.setCell ⟨gb242, 0, none⟩ (.int .i64 ((rd_T43 t226 (ji34)).f0))).setCell ⟨gb242, 1, none⟩ (.slice A240_1 ((rd_T43 t226 (ji34)).f1).length c240_1)).setCell ⟨gb243, 0, none⟩ (.int .i64 ((rd_T43 t229 (ji38)).f0))).setCell ⟨gb243, 1, none⟩ (.slice A241_1 ((rd_T43 t229 (ji38)).f1).length c241_1)) w.heap.size (fun k_ => some k_ ≠ (.slice (some ad241) t229.length co44 : Value).ownBlock ∧ some k_ ≠ (u7 : Value).ownBlock ∧ k_ ≠ gb233 ∧ k_ ≠ gb242 ∧ k_ ≠ gb243) (.slice (some ad240) t226.length co43) t226) := ⟨by (with_reducible repeat (first | apply Kd.N_alloc | apply Kd.N_drewN | apply Kd.N_drew)); exact Kd.N_mono (Kd.N_far (p := ⟨gb243, 1, none⟩) (Kd.N_far (p := ⟨gb243, 0, none⟩) (Kd.N_far (p := ⟨gb242, 1, none⟩) (Kd.N_far (p := ⟨gb242, 0, none⟩) (Kd.N_mono (Kd.N_mono HO_4.out (fun k_ hk => (⟨hk, hk.2.2.2.1⟩ : _ ∧ k_ ≠ gb242))) (fun k_ hk => (⟨hk, hk.1.2.2.2.2⟩ : _ ∧ k_ ≠ gb243))) (fun _ hk => hk.1.2) (.int .i64 ((rd_T43 t226 (ji34)).f0))) (fun _ hk => hk.1.2) (.slice A240_1 ((rd_T43 t226 (ji34)).f1).length c240_1)) (fun _ hk => hk.2) (.int .i64 ((rd_T43 t229 (ji38)).f0))) (fun _ hk => hk.2) (.slice A241_1 ((rd_T43 t229 (ji38)).f1).length c241_1)) (fun _ hk => ⟨hk.1.1.1, ⟨hk.1.1.2.1, ⟨hk.1.1.2.2.1, ⟨hk.1.1.2.2.2.1, hk.1.1.2.2.2.2⟩⟩⟩⟩)⟩
                  have n1_ : Aside0 (Kd.N k43 43 ((((w47.setCell ⟨gb242, 0, none⟩ (.int .i64 ((rd_T43 t226 (ji34)).f0))).setCell ⟨gb242, 1, none⟩ (.slice A240_1 ((rd_T43 t226 (ji34)).f1).length c240_1)).setCell ⟨gb243, 0, none⟩ (.int .i64 ((rd_T43 t229 (ji38)).f0))).setCell ⟨gb243, 1, none⟩ (.slice A241_1 ((rd_T43 t229 (ji38)).f1).length c241_1)) w.heap.size (fun k_ => some k_ ≠ (.slice (some ad240) t226.length co43 : Value).ownBlock ∧ some k_ ≠ (u7 : Value).ownBlock ∧ k_ ≠ gb233 ∧ k_ ≠ gb242 ∧ k_ ≠ gb243) (.slice (some ad241) t229.length co44) t229) := ⟨by (with_reducible repeat (first | apply Kd.N_alloc | apply Kd.N_drewN | apply Kd.N_drew)); exact Kd.N_mono (Kd.N_far (p := ⟨gb243, 1, none⟩) (Kd.N_far (p := ⟨gb243, 0, none⟩) (Kd.N_far (p := ⟨gb242, 1, none⟩) (Kd.N_far (p := ⟨gb242, 0, none⟩) (Kd.N_mono (Kd.N_mono HO_5.out (fun k_ hk => (⟨hk, hk.2.2.2.1⟩ : _ ∧ k_ ≠ gb242))) (fun k_ hk => (⟨hk, hk.1.2.2.2.2⟩ : _ ∧ k_ ≠ gb243))) (fun _ hk => hk.1.2) (.int .i64 ((rd_T43 t226 (ji34)).f0))) (fun _ hk => hk.1.2) (.slice A240_1 ((rd_T43 t226 (ji34)).f1).length c240_1)) (fun _ hk => hk.2) (.int .i64 ((rd_T43 t229 (ji38)).f0))) (fun _ hk => hk.2) (.slice A241_1 ((rd_T43 t229 (ji38)).f1).length c241_1)) (fun _ hk => ⟨hk.1.1.1, ⟨hk.1.1.2.1, ⟨hk.1.1.2.2.1, ⟨hk.1.1.2.2.2.1, hk.1.1.2.2.2.2⟩⟩⟩⟩)⟩
                  have n2_ : Aside0 (Kd.R (Kd.int .i64) 3 ((((w47.setCell ⟨gb242, 0, none⟩ (.int .i64 ((rd_T43 t226 (ji34)).f0))).setCell ⟨gb242, 1, none⟩ (.slice A240_1 ((rd_T43 t226 (ji34)).f1).length c240_1)).setCell ⟨gb243, 0, none⟩ (.int .i64 ((rd_T43 t229 (ji38)).f0))).setCell ⟨gb243, 1, none⟩ (.slice A241_1 ((rd_T43 t229 (ji38)).f1).length c241_1)) w.heap.size (fun _ => True) u7 x7_21) := ⟨by (with_reducible repeat (first | apply Kd.R_alloc | apply Kd.R_drewN | apply Kd.R_drew)); exact Kd.R_mono (Kd.R_far (p := ⟨gb243, 1, none⟩) (Kd.R_far (p := ⟨gb243, 0, none⟩) (Kd.R_far (p := ⟨gb242, 1, none⟩) (Kd.R_far (p := ⟨gb242, 0, none⟩) (Kd.R_types (Kd.R_types HO_7.out BK242.out (by decide)) BK243.out (by decide)) (fun _ hk => hk.1.2) (.int .i64 ((rd_T43 t226 (ji34)).f0))) (fun _ hk => hk.1.2) (.slice A240_1 ((rd_T43 t226 (ji34)).f1).length c240_1)) (fun _ hk => hk.2) (.int .i64 ((rd_T43 t229 (ji38)).f0))) (fun _ hk => hk.2) (.slice A241_1 ((rd_T43 t229 (ji38)).f1).length c241_1)) (fun _ hk => trivial)⟩
                  have n3_ : Aside0 (Kd.V (Kd.int .i64) 3 ((((w47.setCell ⟨gb242, 0, none⟩ (.int .i64 ((rd_T43 t226 (ji34)).f0))).setCell ⟨gb242, 1, none⟩ (.slice A240_1 ((rd_T43 t226 (ji34)).f1).length c240_1)).setCell ⟨gb243, 0, none⟩ (.int .i64 ((rd_T43 t229 (ji38)).f0))).setCell ⟨gb243, 1, none⟩ (.slice A241_1 ((rd_T43 t229 (ji38)).f1).length c241_1)) w.heap.size (fun k_ => some k_ ≠ (.slice (some ad240) t226.length co43 : Value).ownBlock ∧ some k_ ≠ (.slice (some ad241) t229.length co44 : Value).ownBlock ∧ some k_ ≠ (u7 : Value).ownBlock ∧ k_ ≠ gb233 ∧ k_ ≠ gb242 ∧ k_ ≠ gb243) (.slice A240_1 ((rd_T43 t226 (ji34)).f1).length c240_1) ((rd_T43 t226 (ji34)).f1)) := ⟨by (with_reducible repeat (first | apply Kd.V_alloc | apply Kd.V_drewN | apply Kd.V_drew)); exact Kd.V_mono (Kd.V_far (p := ⟨gb243, 1, none⟩) (Kd.V_far (p := ⟨gb243, 0, none⟩) (Kd.V_far (p := ⟨gb242, 1, none⟩) (Kd.V_far (p := ⟨gb242, 0, none⟩) (Kd.V_mono (Kd.V_mono HL240_1.out (fun k_ hk => (⟨hk, hk.2.2.2.2.1⟩ : _ ∧ k_ ≠ gb242))) (fun k_ hk => (⟨hk, hk.1.2.2.2.2.2⟩ : _ ∧ k_ ≠ gb243))) (fun _ hk => hk.1.2) (.int .i64 ((rd_T43 t226 (ji34)).f0))) (fun _ hk => hk.1.2) (.slice A240_1 ((rd_T43 t226 (ji34)).f1).length c240_1)) (fun _ hk => hk.2) (.int .i64 ((rd_T43 t229 (ji38)).f0))) (fun _ hk => hk.2) (.slice A241_1 ((rd_T43 t229 (ji38)).f1).length c241_1)) (fun _ hk => ⟨hk.1.1.1, ⟨hk.1.1.2.1, ⟨hk.1.1.2.2.1, ⟨hk.1.1.2.2.2.1, ⟨hk.1.1.2.2.2.2.1, hk.1.1.2.2.2.2.2⟩⟩⟩⟩⟩)⟩
                  have n4_ : Aside0 (Kd.V (Kd.int .i64) 3 ((((w47.setCell ⟨gb242, 0, none⟩ (.int .i64 ((rd_T43 t226 (ji34)).f0))).setCell ⟨gb242, 1, none⟩ (.slice A240_1 ((rd_T43 t226 (ji34)).f1).length c240_1)).setCell ⟨gb243, 0, none⟩ (.int .i64 ((rd_T43 t229 (ji38)).f0))).setCell ⟨gb243, 1, none⟩ (.slice A241_1 ((rd_T43 t229 (ji38)).f1).length c241_1)) w.heap.size (fun k_ => some k_ ≠ (.slice (some ad240) t226.length co43 : Value).ownBlock ∧ some k_ ≠ (.slice (some ad241) t229.length co44 : Value).ownBlock ∧ some k_ ≠ (u7 : Value).ownBlock ∧ k_ ≠ gb233 ∧ k_ ≠ gb242 ∧ k_ ≠ gb243) (.slice A241_1 ((rd_T43 t229 (ji38)).f1).length c241_1) ((rd_T43 t229 (ji38)).f1)) := ⟨by (with_reducible repeat (first | apply Kd.V_alloc | apply Kd.V_drewN | apply Kd.V_drew)); exact Kd.V_mono (Kd.V_far (p := ⟨gb243, 1, none⟩) (Kd.V_far (p := ⟨gb243, 0, none⟩) (Kd.V_far (p := ⟨gb242, 1, none⟩) (Kd.V_far (p := ⟨gb242, 0, none⟩) (Kd.V_mono (Kd.V_mono HL241_1.out (fun k_ hk => (⟨hk, hk.2.2.2.2.1⟩ : _ ∧ k_ ≠ gb242))) (fun k_ hk => (⟨hk, hk.1.2.2.2.2.2⟩ : _ ∧ k_ ≠ gb243))) (fun _ hk => hk.1.2) (.int .i64 ((rd_T43 t226 (ji34)).f0))) (fun _ hk => hk.1.2) (.slice A240_1 ((rd_T43 t226 (ji34)).f1).length c240_1)) (fun _ hk => hk.2) (.int .i64 ((rd_T43 t229 (ji38)).f0))) (fun _ hk => hk.2) (.slice A241_1 ((rd_T43 t229 (ji38)).f1).length c241_1)) (fun _ hk => ⟨hk.1.1.1, ⟨hk.1.1.2.1, ⟨hk.1.1.2.2.1, ⟨hk.1.1.2.2.2.1, ⟨hk.1.1.2.2.2.2.1, hk.1.1.2.2.2.2.2⟩⟩⟩⟩⟩)⟩
                  have n5_ : Aside0 (((((w47.setCell ⟨gb242, 0, none⟩ (.int .i64 ((rd_T43 t226 (ji34)).f0))).setCell ⟨gb242, 1, none⟩ (.slice A240_1 ((rd_T43 t226 (ji34)).f1).length c240_1)).setCell ⟨gb243, 0, none⟩ (.int .i64 ((rd_T43 t229 (ji38)).f0))).setCell ⟨gb243, 1, none⟩ (.slice A241_1 ((rd_T43 t229 (ji38)).f1).length c241_1)).heap[gb233]? = some (.cells #[.int .i64 ((rd_T41 t223 (ji19)).f0), .int .i64 ((rd_T41 t223 (ji19)).f1), .int .i64 ((rd_T41 t223 (ji19)).f2)] 41 (0, 0))) := ⟨by (with_reducible repeat (first | refine blk_drewN ?_ _ | refine blk_drew ?_ | refine blk_alloc ?_ _)); refine blk_far ?_ NB233_243.out _; (with_reducible repeat (first | refine blk_drewN ?_ _ | refine blk_drew ?_ | refine blk_alloc ?_ _)); refine blk_far ?_ NB233_243.out _; (with_reducible repeat (first | refine blk_drewN ?_ _ | refine blk_drew ?_ | refine blk_alloc ?_ _)); refine blk_far ?_ NB233_242.out _; (with_reducible repeat (first | refine blk_drewN ?_ _ | refine blk_drew ?_ | refine blk_alloc ?_ _)); refine blk_far ?_ NB233_242.out _; (with_reducible repeat (first | refine blk_drewN ?_ _ | refine blk_drew ?_ | refine blk_alloc ?_ _)); exact BK233.out⟩
                  have n6_ : Aside0 (((((w47.setCell ⟨gb242, 0, none⟩ (.int .i64 ((rd_T43 t226 (ji34)).f0))).setCell ⟨gb242, 1, none⟩ (.slice A240_1 ((rd_T43 t226 (ji34)).f1).length c240_1)).setCell ⟨gb243, 0, none⟩ (.int .i64 ((rd_T43 t229 (ji38)).f0))).setCell ⟨gb243, 1, none⟩ (.slice A241_1 ((rd_T43 t229 (ji38)).f1).length c241_1)).heap[gb242]? = some (.cells #[.int .i64 ((rd_T43 t226 (ji34)).f0), .slice A240_1 ((rd_T43 t226 (ji34)).f1).length c240_1] 43 (0, 0))) := ⟨by (with_reducible repeat (first | refine blk_drewN ?_ _ | refine blk_drew ?_ | refine blk_alloc ?_ _)); refine blk_far ?_ NB242_243.out _; (with_reducible repeat (first | refine blk_drewN ?_ _ | refine blk_drew ?_ | refine blk_alloc ?_ _)); refine blk_far ?_ NB242_243.out _; (with_reducible repeat (first | refine blk_drewN ?_ _ | refine blk_drew ?_ | refine blk_alloc ?_ _)); refine blk_put (cs := #[.int .i64 ((rd_T43 t226 (ji34)).f0), .slice none 0 0]) ?_ 1 _ rfl; (with_reducible repeat (first | refine blk_drewN ?_ _ | refine blk_drew ?_ | refine blk_alloc ?_ _)); refine blk_put (cs := #[.int .i64 0, .slice none 0 0]) ?_ 0 _ rfl; (with_reducible repeat (first | refine blk_drewN ?_ _ | refine blk_drew ?_ | refine blk_alloc ?_ _)); exact BK242.out⟩
                  have n7_ : Aside0 (((((w47.setCell ⟨gb242, 0, none⟩ (.int .i64 ((rd_T43 t226 (ji34)).f0))).setCell ⟨gb242, 1, none⟩ (.slice A240_1 ((rd_T43 t226 (ji34)).f1).length c240_1)).setCell ⟨gb243, 0, none⟩ (.int .i64 ((rd_T43 t229 (ji38)).f0))).setCell ⟨gb243, 1, none⟩ (.slice A241_1 ((rd_T43 t229 (ji38)).f1).length c241_1)).heap[gb243]? = some (.cells #[.int .i64 ((rd_T43 t229 (ji38)).f0), .slice A241_1 ((rd_T43 t229 (ji38)).f1).length c241_1] 43 (0, 0))) := ⟨by (with_reducible repeat (first | refine blk_drewN ?_ _ | refine blk_drew ?_ | refine blk_alloc ?_ _)); refine blk_put (cs := #[.int .i64 ((rd_T43 t229 (ji38)).f0), .slice none 0 0]) ?_ 1 _ rfl; (with_reducible repeat (first | refine blk_drewN ?_ _ | refine blk_drew ?_ | refine blk_alloc ?_ _)); refine blk_put (cs := #[.int .i64 0, .slice none 0 0]) ?_ 0 _ rfl; (with_reducible repeat (first | refine blk_drewN ?_ _ | refine blk_drew ?_ | refine blk_alloc ?_ _)); refine blk_far ?_ NB243_242.out _; (with_reducible repeat (first | refine blk_drewN ?_ _ | refine blk_drew ?_ | refine blk_alloc ?_ _)); refine blk_far ?_ NB243_242.out _; (with_reducible repeat (first | refine blk_drewN ?_ _ | refine blk_drew ?_ | refine blk_alloc ?_ _)); exact BK243.out⟩
                  have n8_ : Aside0 (Below w.heap.size w ((((w47.setCell ⟨gb242, 0, none⟩ (.int .i64 ((rd_T43 t226 (ji34)).f0))).setCell ⟨gb242, 1, none⟩ (.slice A240_1 ((rd_T43 t226 (ji34)).f1).length c240_1)).setCell ⟨gb243, 0, none⟩ (.int .i64 ((rd_T43 t229 (ji38)).f0))).setCell ⟨gb243, 1, none⟩ (.slice A241_1 ((rd_T43 t229 (ji38)).f1).length c241_1))) := ⟨by repeat (first | (with_reducible first | exact HB.out | apply below_alloc | apply pw_below_drewN | apply below_drew1 | refine below_set ?_ GE233.out | refine below_set ?_ GE242.out | refine below_set ?_ GE243.out) | exact HB.out)⟩
                  (try clear HO_4)
                  (try clear HO_5)
                  (try clear HO_7)
                  (try clear HL240_1)
                  (try clear HL241_1)
                  (try clear BK233)
                  (try clear BK242)
                  (try clear BK243)
                  (try clear HB)
                  generalize ((((w47.setCell ⟨gb242, 0, none⟩ (.int .i64 ((rd_T43 t226 (ji34)).f0))).setCell ⟨gb242, 1, none⟩ (.slice A240_1 ((rd_T43 t226 (ji34)).f1).length c240_1)).setCell ⟨gb243, 0, none⟩ (.int .i64 ((rd_T43 t229 (ji38)).f0))).setCell ⟨gb243, 1, none⟩ (.slice A241_1 ((rd_T43 t229 (ji38)).f1).length c241_1)) = w60 at n0_ n1_ n2_ n3_ n4_ n5_ n6_ n7_ n8_ ⊢
                  have HO_4 := n0_
                  have HO_5 := n1_
                  have HO_7 := n2_
                  have HL240_1 := n3_
                  have HL241_1 := n4_
                  have BK233 := n5_
                  have BK242 := n6_
                  have BK243 := n7_
                  have HB := n8_
                  clear n0_ n1_ n2_ n3_ n4_ n5_ n6_ n7_ n8_
                  have n0_ := Aside0.mk (Kd.N_drew HO_4.out)
                  have n1_ := Aside0.mk (Kd.N_drew HO_5.out)
                  have n2_ := Aside0.mk (Kd.R_drew HO_7.out)
                  have n3_ := Aside0.mk (Kd.V_drew HL240_1.out)
                  have n4_ := Aside0.mk (Kd.V_drew HL241_1.out)
                  have n5_ := Aside0.mk (blk_drew BK233.out)
                  have n6_ := Aside0.mk (blk_drew BK242.out)
                  have n7_ := Aside0.mk (blk_drew BK243.out)
                  have n8_ := Aside0.mk (below_drew1 HB.out)
                  clear HO_4
                  clear HO_5
                  clear HO_7
                  clear HL240_1
                  clear HL241_1
                  clear BK233
                  clear BK242
                  clear BK243
                  clear HB
                  have HO_4 := n0_
                  have HO_5 := n1_
                  have HO_7 := n2_
                  have HL240_1 := n3_
                  have HL241_1 := n4_
                  have BK233 := n5_
                  have BK242 := n6_
                  have BK243 := n7_
                  have HB := n8_
                  clear n0_ n1_ n2_ n3_ n4_ n5_ n6_ n7_ n8_
                  refine start_ (n := 24) (S := fun w' => w'.cell? ⟨gb233, 0, none⟩ = some (.int .i64 ((rd_T41 t223 (ji19)).f0)) ∧ w'.cell? ⟨gb233, 1, none⟩ = some (.int .i64 ((rd_T41 t223 (ji19)).f1)) ∧ w'.cell? ⟨gb233, 2, none⟩ = some (.int .i64 ((rd_T41 t223 (ji19)).f2)) ∧ w'.cell? ⟨gb242, 0, none⟩ = some (.int .i64 ((rd_T43 t226 (ji34)).f0)) ∧ w'.cell? ⟨gb242, 1, none⟩ = some (.slice A240_1 ((rd_T43 t226 (ji34)).f1).length c240_1) ∧ w'.cell? ⟨gb243, 0, none⟩ = some (.int .i64 ((rd_T43 t229 (ji38)).f0)) ∧ w'.cell? ⟨gb243, 1, none⟩ = some (.slice A241_1 ((rd_T43 t229 (ji38)).f1).length c241_1)) (ds := []) #[false, false, false, false, false, false, false, false, false, false, false, false, false, false, false, false, false, false, false, false, false, false, false, false] (by kernel_rfl) rfl rfl ⟨(blk_cell BK233.out 0).trans rfl, (blk_cell BK233.out 1).trans rfl, (blk_cell BK233.out 2).trans rfl, (blk_cell BK242.out 0).trans rfl, (blk_cell BK242.out 1).trans rfl, (blk_cell BK243.out 0).trans rfl, (blk_cell BK243.out 1).trans rfl⟩ (fun hHeld => ?_); refine with_tabW sobriquetlaw06_UcdMaps.tab9 sobriquetlaw06_UcdMaps.bits9 (fun HT_ HW_ => ?_)
                  generalize w60.drew = w61 at HO_4 HO_5 HO_7 HL240_1 HL241_1 BK233 BK242 BK243 HB hHeld ⊢
                  refine pure_ (i := 0) (N := some 67) (v := ?_) (a' := ?_) #[true, false, false, false, false, false, false, false, false, false, false, false, false, false, false, false, false, false, false, false, false, false, false, false] rfl rfl (any_of HT_.out (by kernel_rfl)) (fun _ _ _ h => h) (Or.inl ⟨by rfl, ?_⟩) ?_ ?_
                  rotate_left
                  ·intro w'
                   go_simp
                   with_reducible rfl
                  rotate_left
                  ·simp only [Act.put, List.setIfInBounds_toArray, List.set_cons_zero, List.set_cons_succ, i64_w, i32_w]
                   rfl
                  refine pure_ (i := 3) (N := some 70) (v := ?_) (a' := ?_) #[true, false, false, true, false, false, false, false, false, false, false, false, false, false, false, false, false, false, false, false, false, false, false, false] rfl rfl (any_of HT_.out (by kernel_rfl)) (fun _ _ _ h => h) (Or.inl ⟨by rfl, ?_⟩) ?_ ?_
                  rotate_left
                  ·intro w'
                   go_simp
                   with_reducible rfl
                  rotate_left
                  ·simp only [Act.put, List.setIfInBounds_toArray, List.set_cons_zero, List.set_cons_succ, i64_w, i32_w]
                   rfl
                  refine take_ (i := 1) (N := some 68) (v := ?_) (a' := ?_) #[true, true, false, true, false, false, false, false, false, false, false, false, false, false, false, false, false, false, false, false, false, false, false, false] rfl rfl (take_ofW HT_.out HW_.out (by kernel_rfl)) (fun _ _ _ h => h) (Or.inl ⟨by rfl, ?_⟩) hHeld ?_ ?_
                  rotate_left
                  ·rintro w' ⟨s0, s1, s2, s3, s4, s5, s6⟩
                   go_simp
                   with_reducible rfl
                  rotate_left
                  ·simp only [Act.put, List.setIfInBounds_toArray, List.set_cons_zero, List.set_cons_succ, i64_w, i32_w]
                   rfl
                  refine one_ (i := 2) (N := some 69) #[true, true, true, true, false, false, false, false, false, false, false, false, false, false, false, false, false, false, false, false, false, false, false, false] rfl rfl (one_of HT_.out (by kernel_rfl)) (by decide) (fun K hK => ?_)
                  refine goes_ Try.func20 (by kernel_rfl) rfl #[.int .i64 ((rd_T41 t223 (ji19)).f0)] (by rfl) rfl rfl (by (try simp only [List.map_toArray, List.map_cons, List.map_nil]); first | done | (simp only [hji19]; rfl) | rfl | (simp only [List.length_drop, List.length_take]; rfl)) ?_
                  with_reducible refine (ucd_Canon.calls ((rd_T41 t223 (ji19)).f0) t244 _ A52.out).mono ?_
                  rintro e w62 ⟨v245, rfl, ho0, hb⟩
                  refine ⟨_, rfl, ?_⟩
                  have n0_ := Aside0.mk (Kd.N_elder' (by (with_reducible repeat (first | apply Kd.N_alloc | apply Kd.N_drewN | apply Kd.N_drew)); exact HO_4.out) (Kd.R_base ho0) hb)
                  have n1_ := Aside0.mk (Kd.N_elder' (by (with_reducible repeat (first | apply Kd.N_alloc | apply Kd.N_drewN | apply Kd.N_drew)); exact HO_5.out) (Kd.R_base ho0) hb)
                  have n2_ := Aside0.mk (Kd.R_elder' (by (with_reducible repeat (first | apply Kd.R_alloc | apply Kd.R_drewN | apply Kd.R_drew)); exact HO_7.out) (Kd.R_base ho0) hb)
                  have n3_ := Aside0.mk (Kd.V_elder' (by (with_reducible repeat (first | apply Kd.V_alloc | apply Kd.V_drewN | apply Kd.V_drew)); exact HL240_1.out) (Kd.R_base ho0) hb)
                  have n4_ := Aside0.mk (Kd.V_elder' (by (with_reducible repeat (first | apply Kd.V_alloc | apply Kd.V_drewN | apply Kd.V_drew)); exact HL241_1.out) (Kd.R_base ho0) hb)
                  have n5_ := Aside0.mk (Kd.R_lower (Kd.R_new' ho0 (Kd.R_lt (by (with_reducible repeat (first | apply Kd.R_alloc | apply Kd.R_drewN | apply Kd.R_drew)); exact HO_7.out))) (below_size (by repeat (first | (with_reducible first | exact HB.out | apply below_alloc | apply pw_below_drewN | apply below_drew1 | refine below_set ?_ GE233.out | refine below_set ?_ GE242.out | refine below_set ?_ GE243.out) | exact HB.out))))
                  have n6_ := Aside0.mk (blk_below (g := gb233) (o := .cells #[.int .i64 ((rd_T41 t223 (ji19)).f0), .int .i64 ((rd_T41 t223 (ji19)).f1), .int .i64 ((rd_T41 t223 (ji19)).f2)] 41 (0, 0)) (by (with_reducible repeat (first | refine blk_drewN ?_ _ | refine blk_drew ?_ | refine blk_alloc ?_ _)); exact BK233.out) hb)
                  have n7_ := Aside0.mk (blk_below (g := gb242) (o := .cells #[.int .i64 ((rd_T43 t226 (ji34)).f0), .slice A240_1 ((rd_T43 t226 (ji34)).f1).length c240_1] 43 (0, 0)) (by (with_reducible repeat (first | refine blk_drewN ?_ _ | refine blk_drew ?_ | refine blk_alloc ?_ _)); exact BK242.out) hb)
                  have n8_ := Aside0.mk (blk_below (g := gb243) (o := .cells #[.int .i64 ((rd_T43 t229 (ji38)).f0), .slice A241_1 ((rd_T43 t229 (ji38)).f1).length c241_1] 43 (0, 0)) (by (with_reducible repeat (first | refine blk_drewN ?_ _ | refine blk_drew ?_ | refine blk_alloc ?_ _)); exact BK243.out) hb)
                  have n9_ := Aside0.mk (below_step (by repeat (first | (with_reducible first | exact HB.out | apply below_alloc | apply pw_below_drewN | apply below_drew1 | refine below_set ?_ GE233.out | refine below_set ?_ GE242.out | refine below_set ?_ GE243.out) | exact HB.out)) hb)
                  clear HO_4
                  clear HO_5
                  clear HO_7
                  clear HL240_1
                  clear HL241_1
                  clear BK233
                  clear BK242
                  clear BK243
                  clear HB
                  have HO_4 := n0_
                  have HO_5 := n1_
                  have HO_7 := n2_
                  have HL240_1 := n3_
                  have HL241_1 := n4_
                  have HO246 := n5_
                  have BK233 := n6_
                  have BK242 := n7_
                  have BK243 := n8_
                  have HB := n9_
                  clear n0_ n1_ n2_ n3_ n4_ n5_ n6_ n7_ n8_ n9_
                  (try clear hb)
                  (try clear hb2)
                  (try clear hk)
                  (try clear hi)
                  (try clear ho0)
                  obtain ⟨Ao63, co63, eo63⟩ := Kd.R_slice HO246.out
                  (first | subst eo63 | (injection eo63 with f1_ f2_ f3_; have f4_ := f1_.symm; have f5_ := f3_.symm; clear f1_ f2_ f3_; subst f4_; subst f5_))
                  obtain ⟨Ao64, co64, eo64⟩ := Kd.R_slice HO_7.out
                  (first | subst eo64 | (injection eo64 with f1_ f2_ f3_; have f4_ := f1_.symm; have f5_ := f3_.symm; clear f1_ f2_ f3_; subst f4_; subst f5_))
                  refine hK.out _ _ ⟨(blk_cell BK233.out 0).trans rfl, (blk_cell BK233.out 1).trans rfl, (blk_cell BK233.out 2).trans rfl, (blk_cell BK242.out 0).trans rfl, (blk_cell BK242.out 1).trans rfl, (blk_cell BK243.out 0).trans rfl, (blk_cell BK243.out 1).trans rfl⟩ (fun hHeld => ?_)
                  clear hK K
                  refine norm_ (a' := ?_) ?_ ?_
                  rotate_left
                  ·show Act.put _ (some 69) _ = _
                   simp only [Act.put, List.setIfInBounds_toArray, List.set_cons_zero, List.set_cons_succ, i64_w, i32_w]
                   rfl
                  refine one_ (i := 4) (N := some 71) #[true, true, true, true, true, false, false, false, false, false, false, false, false, false, false, false, false, false, false, false, false, false, false, false] rfl rfl (one_of HT_.out (by kernel_rfl)) (by decide) (fun K hK => ?_)
                  refine goes_ Try.func21 (by kernel_rfl) rfl #[.slice Ao63 t244.length co63, .slice Ao64 x7_21.length co64] (by rfl) rfl rfl (by (try simp only [List.map_toArray, List.map_cons, List.map_nil]); first | done | rfl | (simp only [List.length_drop, List.length_take]; rfl)) ?_
                  with_reducible refine (sobriquetkeep_Ints.calls kj21 _ _ t244 _ _ x7_21 true _ ?side1 ?side2 ?side3 ?side4 A53.out).mono ?_
                  (case side1 => repeat (first | exact (Kd.R_reads' HO246.out).2.2 | (with_reducible refine Kd.C_alloc ?_ _) | (with_reducible refine Kd.C_drewN ?_ _) | (with_reducible refine Kd.C_drew ?_)))
                  (case side2 => exact (Kd.R_reads' HO246.out).2.1)
                  (case side3 => repeat (first | exact (Kd.R_reads' HO_7.out).2.2 | (with_reducible refine Kd.C_alloc ?_ _) | (with_reducible refine Kd.C_drewN ?_ _) | (with_reducible refine Kd.C_drew ?_)))
                  (case side4 => exact (Kd.R_reads' HO_7.out).2.1)
                  rintro e w' ⟨rfl, ⟨nd, rfl⟩⟩
                  refine ⟨_, rfl, ?_⟩
                  refine hK.out _ _ ⟨(blk_cell BK233.out 0).trans rfl, (blk_cell BK233.out 1).trans rfl, (blk_cell BK233.out 2).trans rfl, (blk_cell BK242.out 0).trans rfl, (blk_cell BK242.out 1).trans rfl, (blk_cell BK243.out 0).trans rfl, (blk_cell BK243.out 1).trans rfl⟩ (fun hHeld => ?_)
                  clear hK K
                  refine norm_ (a' := ?_) ?_ ?_
                  rotate_left
                  ·show Act.put _ (some 71) _ = _
                   simp only [Act.put, List.setIfInBounds_toArray, List.set_cons_zero, List.set_cons_succ, i64_w, i32_w]
                   rfl
                  refine pure_ (i := 5) (N := some 72) (v := ?_) (a' := ?_) #[true, true, true, true, true, true, false, false, false, false, false, false, false, false, false, false, false, false, false, false, false, false, false, false] rfl rfl (any_of HT_.out (by kernel_rfl)) (fun _ _ _ h => h) (Or.inl ⟨by rfl, ?_⟩) ?_ ?_
                  rotate_left
                  ·intro w'
                   go_simp
                   with_reducible rfl
                  rotate_left
                  ·simp only [Act.put, List.setIfInBounds_toArray, List.set_cons_zero, List.set_cons_succ, i64_w, i32_w]
                   rfl
                  refine pure_ (i := 6) (N := some 73) (v := ?_) (a' := ?_) #[true, true, true, true, true, true, true, false, false, false, false, false, false, false, false, false, false, false, false, false, false, false, false, false] rfl rfl (any_of HT_.out (by kernel_rfl)) (fun _ _ _ h => h) (Or.inl ⟨by rfl, ?_⟩) ?_ ?_
                  rotate_left
                  ·intro w'
                   go_simp
                   with_reducible rfl
                  rotate_left
                  ·simp only [Act.put, List.setIfInBounds_toArray, List.set_cons_zero, List.set_cons_succ, i64_w, i32_w]
                   rfl
                  refine pure_ (i := 7) (N := some 74) (v := ?_) (a' := ?_) #[true, true, true, true, true, true, true, true, false, false, false, false, false, false, false, false, false, false, false, false, false, false, false, false] rfl rfl (any_of HT_.out (by kernel_rfl)) (fun _ _ _ h => h) (Or.inl ⟨by rfl, ?_⟩) ?_ ?_
                  rotate_left
                  ·intro w'
                   go_simp
                   with_reducible rfl
                  rotate_left
                  ·simp only [Act.put, List.setIfInBounds_toArray, List.set_cons_zero, List.set_cons_succ, i64_w, i32_w]
                   rfl
                  refine pure_ (i := 10) (N := some 77) (v := ?_) (a' := ?_) #[true, true, true, true, true, true, true, true, false, false, true, false, false, false, false, false, false, false, false, false, false, false, false, false] rfl rfl (any_of HT_.out (by kernel_rfl)) (fun _ _ _ h => h) (Or.inl ⟨by rfl, ?_⟩) ?_ ?_
                  rotate_left
                  ·intro w'
                   go_simp
                   with_reducible rfl
                  rotate_left
                  ·simp only [Act.put, List.setIfInBounds_toArray, List.set_cons_zero, List.set_cons_succ, i64_w, i32_w]
                   rfl
                  refine take_ (i := 8) (N := some 75) (v := ?_) (a' := ?_) #[true, true, true, true, true, true, true, true, true, false, true, false, false, false, false, false, false, false, false, false, false, false, false, false] rfl rfl (take_ofW HT_.out HW_.out (by kernel_rfl)) (fun _ _ _ h => h) (Or.inl ⟨by rfl, ?_⟩) hHeld ?_ ?_
                  rotate_left
                  ·rintro w' ⟨s0, s1, s2, s3, s4, s5, s6⟩
                   go_simp
                   with_reducible rfl
                  rotate_left
                  ·simp only [Act.put, List.setIfInBounds_toArray, List.set_cons_zero, List.set_cons_succ, i64_w, i32_w]
                   rfl
                  refine take_ (i := 11) (N := some 78) (v := ?_) (a' := ?_) #[true, true, true, true, true, true, true, true, true, false, true, true, false, false, false, false, false, false, false, false, false, false, false, false] rfl rfl (take_ofW HT_.out HW_.out (by kernel_rfl)) (fun _ _ _ h => h) (Or.inl ⟨by rfl, ?_⟩) hHeld ?_ ?_
                  rotate_left
                  ·rintro w' ⟨s0, s1, s2, s3, s4, s5, s6⟩
                   go_simp
                   with_reducible rfl
                  rotate_left
                  ·simp only [Act.put, List.setIfInBounds_toArray, List.set_cons_zero, List.set_cons_succ, i64_w, i32_w]
                   rfl
                  refine one_ (i := 9) (N := some 76) #[true, true, true, true, true, true, true, true, true, true, true, true, false, false, false, false, false, false, false, false, false, false, false, false] rfl rfl (one_of HT_.out (by kernel_rfl)) (by decide) (fun K hK => ?_)
                  refine goes_ Try.func23 (by kernel_rfl) rfl #[.int .i64 ((rd_T43 t226 (ji34)).f0)] (by rfl) rfl rfl (by (try simp only [List.map_toArray, List.map_cons, List.map_nil]); first | done | (simp only [hji34]; rfl) | rfl | (simp only [List.length_drop, List.length_take]; rfl)) ?_
                  with_reducible refine (ucd_Compat.calls ((rd_T43 t226 (ji34)).f0) t248 _ A55.out).mono ?_
                  rintro e w65 ⟨v249, rfl, ho0, hb⟩
                  refine ⟨_, rfl, ?_⟩
                  have n0_ := Aside0.mk (Kd.N_elder' (by (with_reducible repeat (first | apply Kd.N_alloc | apply Kd.N_drewN | apply Kd.N_drew)); exact HO_4.out) (Kd.R_base ho0) hb)
                  have n1_ := Aside0.mk (Kd.N_elder' (by (with_reducible repeat (first | apply Kd.N_alloc | apply Kd.N_drewN | apply Kd.N_drew)); exact HO_5.out) (Kd.R_base ho0) hb)
                  have n2_ := Aside0.mk (Kd.R_elder' (by (with_reducible repeat (first | apply Kd.R_alloc | apply Kd.R_drewN | apply Kd.R_drew)); exact HO_7.out) (Kd.R_base ho0) hb)
                  have n3_ := Aside0.mk (Kd.V_elder' (by (with_reducible repeat (first | apply Kd.V_alloc | apply Kd.V_drewN | apply Kd.V_drew)); exact HL240_1.out) (Kd.R_base ho0) hb)
                  have n4_ := Aside0.mk (Kd.V_elder' (by (with_reducible repeat (first | apply Kd.V_alloc | apply Kd.V_drewN | apply Kd.V_drew)); exact HL241_1.out) (Kd.R_base ho0) hb)
                  have n5_ := Aside0.mk (Kd.R_elder' (by (with_reducible repeat (first | apply Kd.R_alloc | apply Kd.R_drewN | apply Kd.R_drew)); exact HO246.out) (Kd.R_base ho0) hb)
                  have n6_ := Aside0.mk (Kd.R_lower (Kd.R_new' (Kd.R_new' ho0 (Kd.R_lt (by (with_reducible repeat (first | apply Kd.R_alloc | apply Kd.R_drewN | apply Kd.R_drew)); exact HO_7.out))) (Kd.R_lt (by (with_reducible repeat (first | apply Kd.R_alloc | apply Kd.R_drewN | apply Kd.R_drew)); exact HO246.out))) (below_size (by repeat (first | (with_reducible first | exact HB.out | apply below_alloc | apply pw_below_drewN | apply below_drew1 | refine below_set ?_ GE233.out | refine below_set ?_ GE242.out | refine below_set ?_ GE243.out) | exact HB.out))))
                  have n7_ := Aside0.mk (blk_below (g := gb233) (o := .cells #[.int .i64 ((rd_T41 t223 (ji19)).f0), .int .i64 ((rd_T41 t223 (ji19)).f1), .int .i64 ((rd_T41 t223 (ji19)).f2)] 41 (0, 0)) (by (with_reducible repeat (first | refine blk_drewN ?_ _ | refine blk_drew ?_ | refine blk_alloc ?_ _)); exact BK233.out) hb)
                  have n8_ := Aside0.mk (blk_below (g := gb242) (o := .cells #[.int .i64 ((rd_T43 t226 (ji34)).f0), .slice A240_1 ((rd_T43 t226 (ji34)).f1).length c240_1] 43 (0, 0)) (by (with_reducible repeat (first | refine blk_drewN ?_ _ | refine blk_drew ?_ | refine blk_alloc ?_ _)); exact BK242.out) hb)
                  have n9_ := Aside0.mk (blk_below (g := gb243) (o := .cells #[.int .i64 ((rd_T43 t229 (ji38)).f0), .slice A241_1 ((rd_T43 t229 (ji38)).f1).length c241_1] 43 (0, 0)) (by (with_reducible repeat (first | refine blk_drewN ?_ _ | refine blk_drew ?_ | refine blk_alloc ?_ _)); exact BK243.out) hb)
                  have n10_ := Aside0.mk (below_step (by repeat (first | (with_reducible first | exact HB.out | apply below_alloc | apply pw_below_drewN | apply below_drew1 | refine below_set ?_ GE233.out | refine below_set ?_ GE242.out | refine below_set ?_ GE243.out) | exact HB.out)) hb)
                  clear HO_4
                  clear HO_5
                  clear HO_7
                  clear HL240_1
                  clear HL241_1
                  clear HO246
                  clear BK233
                  clear BK242
                  clear BK243
                  clear HB
                  have HO_4 := n0_
                  have HO_5 := n1_
                  have HO_7 := n2_
                  have HL240_1 := n3_
                  have HL241_1 := n4_
                  have HO246 := n5_
                  have HO250 := n6_
                  have BK233 := n7_
                  have BK242 := n8_
                  have BK243 := n9_
                  have HB := n10_
                  clear n0_ n1_ n2_ n3_ n4_ n5_ n6_ n7_ n8_ n9_ n10_
                  (try clear hb)
                  (try clear hb2)
                  (try clear hk)
                  (try clear hi)
                  (try clear ho0)
                  obtain ⟨Ao66, co66, eo66⟩ := Kd.R_slice HO250.out
                  (first | subst eo66 | (injection eo66 with f1_ f2_ f3_; have f4_ := f1_.symm; have f5_ := f3_.symm; clear f1_ f2_ f3_; subst f4_; subst f5_))
                  refine hK.out _ _ ⟨(blk_cell BK233.out 0).trans rfl, (blk_cell BK233.out 1).trans rfl, (blk_cell BK233.out 2).trans rfl, (blk_cell BK242.out 0).trans rfl, (blk_cell BK242.out 1).trans rfl, (blk_cell BK243.out 0).trans rfl, (blk_cell BK243.out 1).trans rfl⟩ (fun hHeld => ?_)
                  clear hK K
                  refine norm_ (a' := ?_) ?_ ?_
                  rotate_left
                  ·show Act.put _ (some 76) _ = _
                   simp only [Act.put, List.setIfInBounds_toArray, List.set_cons_zero, List.set_cons_succ, i64_w, i32_w]
                   rfl
                  refine one_ (i := 12) (N := some 79) #[true, true, true, true, true, true, true, true, true, true, true, true, true, false, false, false, false, false, false, false, false, false, false, false] rfl rfl (one_of HT_.out (by kernel_rfl)) (by decide) (fun K hK => ?_)
                  refine goes_ Try.func21 (by kernel_rfl) rfl #[.slice Ao66 t248.length co66, .slice A240_1 ((rd_T43 t226 (ji34)).f1).length c240_1] (by rfl) rfl rfl (by (try simp only [List.map_toArray, List.map_cons, List.map_nil]); first | done | (simp only [hji34]; rfl) | rfl | (simp only [List.length_drop, List.length_take]; rfl)) ?_
                  with_reducible refine (sobriquetkeep_Ints.calls kj21 _ _ t248 _ _ ((rd_T43 t226 (ji34)).f1) true _ ?side1 ?side2 ?side3 ?side4 A56.out).mono ?_
                  (case side1 => repeat (first | exact (Kd.R_reads' HO250.out).2.2 | (with_reducible refine Kd.C_alloc ?_ _) | (with_reducible refine Kd.C_drewN ?_ _) | (with_reducible refine Kd.C_drew ?_)))
                  (case side2 => exact (Kd.R_reads' HO250.out).2.1)
                  (case side3 => repeat (first | exact ((Kd.V_reads' (by (with_reducible repeat (first | apply Kd.V_alloc | apply Kd.V_drewN | apply Kd.V_drew)); exact HL240_1.out)).2.2) | (with_reducible refine Kd.C_alloc ?_ _) | (with_reducible refine Kd.C_drewN ?_ _) | (with_reducible refine Kd.C_drew ?_)))
                  (case side4 => exact HC240_1.out)
                  rintro e w' ⟨rfl, ⟨nd, rfl⟩⟩
                  refine ⟨_, rfl, ?_⟩
                  refine hK.out _ _ ⟨(blk_cell BK233.out 0).trans rfl, (blk_cell BK233.out 1).trans rfl, (blk_cell BK233.out 2).trans rfl, (blk_cell BK242.out 0).trans rfl, (blk_cell BK242.out 1).trans rfl, (blk_cell BK243.out 0).trans rfl, (blk_cell BK243.out 1).trans rfl⟩ (fun hHeld => ?_)
                  clear hK K
                  refine norm_ (a' := ?_) ?_ ?_
                  rotate_left
                  ·show Act.put _ (some 79) _ = _
                   simp only [Act.put, List.setIfInBounds_toArray, List.set_cons_zero, List.set_cons_succ, i64_w, i32_w]
                   rfl
                  refine pure_ (i := 13) (N := some 80) (v := ?_) (a' := ?_) #[true, true, true, true, true, true, true, true, true, true, true, true, true, true, false, false, false, false, false, false, false, false, false, false] rfl rfl (any_of HT_.out (by kernel_rfl)) (fun _ _ _ h => h) (Or.inl ⟨by rfl, ?_⟩) ?_ ?_
                  rotate_left
                  ·intro w'
                   go_simp
                   with_reducible rfl
                  rotate_left
                  ·simp only [Act.put, List.setIfInBounds_toArray, List.set_cons_zero, List.set_cons_succ, i64_w, i32_w]
                   rfl
                  refine pure_ (i := 14) (N := some 81) (v := ?_) (a' := ?_) #[true, true, true, true, true, true, true, true, true, true, true, true, true, true, true, false, false, false, false, false, false, false, false, false] rfl rfl (any_of HT_.out (by kernel_rfl)) (fun _ _ _ h => h) (Or.inl ⟨by rfl, ?_⟩) ?_ ?_
                  rotate_left
                  ·intro w'
                   go_simp
                   with_reducible rfl
                  rotate_left
                  ·simp only [Act.put, List.setIfInBounds_toArray, List.set_cons_zero, List.set_cons_succ, i64_w, i32_w]
                   rfl
                  refine pure_ (i := 15) (N := some 82) (v := ?_) (a' := ?_) #[true, true, true, true, true, true, true, true, true, true, true, true, true, true, true, true, false, false, false, false, false, false, false, false] rfl rfl (any_of HT_.out (by kernel_rfl)) (fun _ _ _ h => h) (Or.inl ⟨by rfl, ?_⟩) ?_ ?_
                  rotate_left
                  ·intro w'
                   go_simp
                   with_reducible rfl
                  rotate_left
                  ·simp only [Act.put, List.setIfInBounds_toArray, List.set_cons_zero, List.set_cons_succ, i64_w, i32_w]
                   rfl
                  refine pure_ (i := 16) (N := some 83) (v := ?_) (a' := ?_) #[true, true, true, true, true, true, true, true, true, true, true, true, true, true, true, true, true, false, false, false, false, false, false, false] rfl rfl (any_of HT_.out (by kernel_rfl)) (fun _ _ _ h => h) (Or.inl ⟨by rfl, ?_⟩) ?_ ?_
                  rotate_left
                  ·intro w'
                   go_simp
                   with_reducible rfl
                  rotate_left
                  ·simp only [Act.put, List.setIfInBounds_toArray, List.set_cons_zero, List.set_cons_succ, i64_w, i32_w]
                   rfl
                  refine pure_ (i := 19) (N := some 86) (v := ?_) (a' := ?_) #[true, true, true, true, true, true, true, true, true, true, true, true, true, true, true, true, true, false, false, true, false, false, false, false] rfl rfl (any_of HT_.out (by kernel_rfl)) (fun _ _ _ h => h) (Or.inl ⟨by rfl, ?_⟩) ?_ ?_
                  rotate_left
                  ·intro w'
                   go_simp
                   with_reducible rfl
                  rotate_left
                  ·simp only [Act.put, List.setIfInBounds_toArray, List.set_cons_zero, List.set_cons_succ, i64_w, i32_w]
                   rfl
                  refine take_ (i := 17) (N := some 84) (v := ?_) (a' := ?_) #[true, true, true, true, true, true, true, true, true, true, true, true, true, true, true, true, true, true, false, true, false, false, false, false] rfl rfl (take_ofW HT_.out HW_.out (by kernel_rfl)) (fun _ _ _ h => h) (Or.inl ⟨by rfl, ?_⟩) hHeld ?_ ?_
                  rotate_left
                  ·rintro w' ⟨s0, s1, s2, s3, s4, s5, s6⟩
                   go_simp
                   with_reducible rfl
                  rotate_left
                  ·simp only [Act.put, List.setIfInBounds_toArray, List.set_cons_zero, List.set_cons_succ, i64_w, i32_w]
                   rfl
                  refine take_ (i := 20) (N := some 87) (v := ?_) (a' := ?_) #[true, true, true, true, true, true, true, true, true, true, true, true, true, true, true, true, true, true, false, true, true, false, false, false] rfl rfl (take_ofW HT_.out HW_.out (by kernel_rfl)) (fun _ _ _ h => h) (Or.inl ⟨by rfl, ?_⟩) hHeld ?_ ?_
                  rotate_left
                  ·rintro w' ⟨s0, s1, s2, s3, s4, s5, s6⟩
                   go_simp
                   with_reducible rfl
                  rotate_left
                  ·simp only [Act.put, List.setIfInBounds_toArray, List.set_cons_zero, List.set_cons_succ, i64_w, i32_w]
                   rfl
                  refine one_ (i := 18) (N := some 85) #[true, true, true, true, true, true, true, true, true, true, true, true, true, true, true, true, true, true, true, true, true, false, false, false] rfl rfl (one_of HT_.out (by kernel_rfl)) (by decide) (fun K hK => ?_)
                  refine goes_ Try.func27 (by kernel_rfl) rfl #[.int .i64 ((rd_T43 t229 (ji38)).f0)] (by rfl) rfl rfl (by (try simp only [List.map_toArray, List.map_cons, List.map_nil]); first | done | (simp only [hji38]; rfl) | rfl | (simp only [List.length_drop, List.length_take]; rfl)) ?_
                  with_reducible refine (ucd_Fold.calls ((rd_T43 t229 (ji38)).f0) t252 _ A58.out).mono ?_
                  rintro e w67 ⟨v253, rfl, ho0, hb⟩
                  refine ⟨_, rfl, ?_⟩
                  have n0_ := Aside0.mk (Kd.N_elder' (by (with_reducible repeat (first | apply Kd.N_alloc | apply Kd.N_drewN | apply Kd.N_drew)); exact HO_4.out) (Kd.R_base ho0) hb)
                  have n1_ := Aside0.mk (Kd.N_elder' (by (with_reducible repeat (first | apply Kd.N_alloc | apply Kd.N_drewN | apply Kd.N_drew)); exact HO_5.out) (Kd.R_base ho0) hb)
                  have n2_ := Aside0.mk (Kd.R_elder' (by (with_reducible repeat (first | apply Kd.R_alloc | apply Kd.R_drewN | apply Kd.R_drew)); exact HO_7.out) (Kd.R_base ho0) hb)
                  have n3_ := Aside0.mk (Kd.V_elder' (by (with_reducible repeat (first | apply Kd.V_alloc | apply Kd.V_drewN | apply Kd.V_drew)); exact HL240_1.out) (Kd.R_base ho0) hb)
                  have n4_ := Aside0.mk (Kd.V_elder' (by (with_reducible repeat (first | apply Kd.V_alloc | apply Kd.V_drewN | apply Kd.V_drew)); exact HL241_1.out) (Kd.R_base ho0) hb)
                  have n5_ := Aside0.mk (Kd.R_elder' (by (with_reducible repeat (first | apply Kd.R_alloc | apply Kd.R_drewN | apply Kd.R_drew)); exact HO246.out) (Kd.R_base ho0) hb)
                  have n6_ := Aside0.mk (Kd.R_elder' (by (with_reducible repeat (first | apply Kd.R_alloc | apply Kd.R_drewN | apply Kd.R_drew)); exact HO250.out) (Kd.R_base ho0) hb)
                  have n7_ := Aside0.mk (Kd.R_lower (Kd.R_new' (Kd.R_new' (Kd.R_new' ho0 (Kd.R_lt (by (with_reducible repeat (first | apply Kd.R_alloc | apply Kd.R_drewN | apply Kd.R_drew)); exact HO_7.out))) (Kd.R_lt (by (with_reducible repeat (first | apply Kd.R_alloc | apply Kd.R_drewN | apply Kd.R_drew)); exact HO246.out))) (Kd.R_lt (by (with_reducible repeat (first | apply Kd.R_alloc | apply Kd.R_drewN | apply Kd.R_drew)); exact HO250.out))) (below_size (by repeat (first | (with_reducible first | exact HB.out | apply below_alloc | apply pw_below_drewN | apply below_drew1 | refine below_set ?_ GE233.out | refine below_set ?_ GE242.out | refine below_set ?_ GE243.out) | exact HB.out))))
                  have n8_ := Aside0.mk (blk_below (g := gb233) (o := .cells #[.int .i64 ((rd_T41 t223 (ji19)).f0), .int .i64 ((rd_T41 t223 (ji19)).f1), .int .i64 ((rd_T41 t223 (ji19)).f2)] 41 (0, 0)) (by (with_reducible repeat (first | refine blk_drewN ?_ _ | refine blk_drew ?_ | refine blk_alloc ?_ _)); exact BK233.out) hb)
                  have n9_ := Aside0.mk (blk_below (g := gb242) (o := .cells #[.int .i64 ((rd_T43 t226 (ji34)).f0), .slice A240_1 ((rd_T43 t226 (ji34)).f1).length c240_1] 43 (0, 0)) (by (with_reducible repeat (first | refine blk_drewN ?_ _ | refine blk_drew ?_ | refine blk_alloc ?_ _)); exact BK242.out) hb)
                  have n10_ := Aside0.mk (blk_below (g := gb243) (o := .cells #[.int .i64 ((rd_T43 t229 (ji38)).f0), .slice A241_1 ((rd_T43 t229 (ji38)).f1).length c241_1] 43 (0, 0)) (by (with_reducible repeat (first | refine blk_drewN ?_ _ | refine blk_drew ?_ | refine blk_alloc ?_ _)); exact BK243.out) hb)
                  have n11_ := Aside0.mk (below_step (by repeat (first | (with_reducible first | exact HB.out | apply below_alloc | apply pw_below_drewN | apply below_drew1 | refine below_set ?_ GE233.out | refine below_set ?_ GE242.out | refine below_set ?_ GE243.out) | exact HB.out)) hb)
                  clear HO_4
                  clear HO_5
                  clear HO_7
                  clear HL240_1
                  clear HL241_1
                  clear HO246
                  clear HO250
                  clear BK233
                  clear BK242
                  clear BK243
                  clear HB
                  have HO_4 := n0_
                  have HO_5 := n1_
                  have HO_7 := n2_
                  have HL240_1 := n3_
                  have HL241_1 := n4_
                  have HO246 := n5_
                  have HO250 := n6_
                  have HO254 := n7_
                  have BK233 := n8_
                  have BK242 := n9_
                  have BK243 := n10_
                  have HB := n11_
                  clear n0_ n1_ n2_ n3_ n4_ n5_ n6_ n7_ n8_ n9_ n10_ n11_
                  (try clear hb)
                  (try clear hb2)
                  (try clear hk)
                  (try clear hi)
                  (try clear ho0)
                  obtain ⟨Ao68, co68, eo68⟩ := Kd.R_slice HO254.out
                  (first | subst eo68 | (injection eo68 with f1_ f2_ f3_; have f4_ := f1_.symm; have f5_ := f3_.symm; clear f1_ f2_ f3_; subst f4_; subst f5_))
                  refine hK.out _ _ ⟨(blk_cell BK233.out 0).trans rfl, (blk_cell BK233.out 1).trans rfl, (blk_cell BK233.out 2).trans rfl, (blk_cell BK242.out 0).trans rfl, (blk_cell BK242.out 1).trans rfl, (blk_cell BK243.out 0).trans rfl, (blk_cell BK243.out 1).trans rfl⟩ (fun hHeld => ?_)
                  clear hK K
                  refine norm_ (a' := ?_) ?_ ?_
                  rotate_left
                  ·show Act.put _ (some 85) _ = _
                   simp only [Act.put, List.setIfInBounds_toArray, List.set_cons_zero, List.set_cons_succ, i64_w, i32_w]
                   rfl
                  refine one_ (i := 21) (N := some 88) #[true, true, true, true, true, true, true, true, true, true, true, true, true, true, true, true, true, true, true, true, true, true, false, false] rfl rfl (one_of HT_.out (by kernel_rfl)) (by decide) (fun K hK => ?_)
                  refine goes_ Try.func21 (by kernel_rfl) rfl #[.slice Ao68 t252.length co68, .slice A241_1 ((rd_T43 t229 (ji38)).f1).length c241_1] (by rfl) rfl rfl (by (try simp only [List.map_toArray, List.map_cons, List.map_nil]); first | done | (simp only [hji38]; rfl) | rfl | (simp only [List.length_drop, List.length_take]; rfl)) ?_
                  with_reducible refine (sobriquetkeep_Ints.calls kj21 _ _ t252 _ _ ((rd_T43 t229 (ji38)).f1) t255 _ ?side1 ?side2 ?side3 ?side4 A59.out).mono ?_
                  (case side1 => repeat (first | exact (Kd.R_reads' HO254.out).2.2 | (with_reducible refine Kd.C_alloc ?_ _) | (with_reducible refine Kd.C_drewN ?_ _) | (with_reducible refine Kd.C_drew ?_)))
                  (case side2 => exact (Kd.R_reads' HO254.out).2.1)
                  (case side3 => repeat (first | exact ((Kd.V_reads' (by (with_reducible repeat (first | apply Kd.V_alloc | apply Kd.V_drewN | apply Kd.V_drew)); exact HL241_1.out)).2.2) | (with_reducible refine Kd.C_alloc ?_ _) | (with_reducible refine Kd.C_drewN ?_ _) | (with_reducible refine Kd.C_drew ?_)))
                  (case side4 => exact HC241_1.out)
                  rintro e w' ⟨rfl, ⟨nd, rfl⟩⟩
                  refine ⟨_, rfl, ?_⟩
                  refine hK.out _ _ ⟨(blk_cell BK233.out 0).trans rfl, (blk_cell BK233.out 1).trans rfl, (blk_cell BK233.out 2).trans rfl, (blk_cell BK242.out 0).trans rfl, (blk_cell BK242.out 1).trans rfl, (blk_cell BK243.out 0).trans rfl, (blk_cell BK243.out 1).trans rfl⟩ (fun hHeld => ?_)
                  clear hK K
                  refine norm_ (a' := ?_) ?_ ?_
                  rotate_left
                  ·show Act.put _ (some 88) _ = _
                   simp only [Act.put, List.setIfInBounds_toArray, List.set_cons_zero, List.set_cons_succ, i64_w, i32_w]
                   rfl
                  refine pure_ (i := 22) (N := some 89) (v := ?_) (a' := ?_) #[true, true, true, true, true, true, true, true, true, true, true, true, true, true, true, true, true, true, true, true, true, true, true, false] rfl rfl (any_of HT_.out (by kernel_rfl)) (fun _ _ _ h => h) (Or.inl ⟨by rfl, ?_⟩) ?_ ?_
                  rotate_left
                  ·intro w'
                   go_simp
                   with_reducible rfl
                  rotate_left
                  ·simp only [Act.put, List.setIfInBounds_toArray, List.set_cons_zero, List.set_cons_succ, i64_w, i32_w]
                   rfl
                  refine pure_ (i := 23) (N := some 90) (v := ?_) (a' := ?_) #[true, true, true, true, true, true, true, true, true, true, true, true, true, true, true, true, true, true, true, true, true, true, true, true] rfl rfl (any_of HT_.out (by kernel_rfl)) (fun _ _ _ h => h) (Or.inl ⟨by rfl, ?_⟩) ?_ ?_
                  rotate_left
                  ·intro w'
                   go_simp
                   with_reducible rfl
                  rotate_left
                  ·simp only [Act.put, List.setIfInBounds_toArray, List.set_cons_zero, List.set_cons_succ, i64_w, i32_w]
                   rfl
                  refine done_ (done_of HT_.out (by kernel_rfl)) ?_
                  try go_wp2
                  go_meet
                  case rel => exact ⟨_, (!t255), (by first | rfl | (simp; done) | (simp [*]; done)), H', ⟨by have := HJ4.out; have := HJ21.out; first | omega | exact Nat.le_refl _⟩, ⟨by (with_reducible repeat (first | refine blk_drewN ?_ _ | refine blk_drew ?_ | refine blk_alloc ?_ _)); exact BK233.out⟩, ⟨by (with_reducible repeat (first | refine blk_drewN ?_ _ | refine blk_drew ?_ | refine blk_alloc ?_ _)); exact BK242.out⟩, ⟨by (with_reducible repeat (first | refine blk_drewN ?_ _ | refine blk_drew ?_ | refine blk_alloc ?_ _)); exact BK243.out⟩, ⟨by (with_reducible repeat (first | apply Kd.V_alloc | apply Kd.V_drewN | apply Kd.V_drew)); exact Kd.V_mono HL241_1.out (fun _ _ => trivial)⟩, ⟨by repeat (first | (with_reducible first | exact HB.out | apply below_alloc | apply pw_below_drewN | apply below_drew1 | refine below_set ?_ GE233.out | refine below_set ?_ GE242.out | refine below_set ?_ GE243.out) | exact HB.out)⟩⟩
                 ·(rw [if_neg c57] at H; exact absurd H (maps_no2 _ _ _ _ _ _ HRr.out))
                ·(rw [if_neg c54] at H; exact absurd H (maps_no2 _ _ _ _ _ _ HRr.out))
               case rest =>
                clear HC41
                try clear c2
                try clear p2
                try clear c5
                try clear c20
                try clear c21
                try clear c23
                try clear c24
                try clear c54
                try clear c57
                obtain ⟨kq, x90_40, rfl, HA, HJ40, BK233, BK242, BK243, HL241_1, HB⟩ := hcut
                cases kq with
                | zero => exact absurd HA.out (by simp [sobriquetlaw06_UcdMaps.j2])
                | succ kj40 =>
                 have H := HA.out
                 clear HA
                 simp only [sobriquetlaw06_UcdMaps.j2] at H
                 by_cases c81 : x90_40 = true
                 ·(rw [if_pos c81] at H; exact absurd H (maps_no1 _ HRr.out))
                 ·replace c81 := Bool.eq_false_iff.mpr c81
                  subst c81
                  have H1 : (sobriquetlaw06_UcdMaps.l0 kj40 0 ((rd_T43 t226 (ji34)).f0) ((rd_T43 t226 (ji34)).f1) ((rd_T43 t229 (ji38)).f0) ((rd_T43 t229 (ji38)).f1)) = some r := by rw [if_neg (show ¬ (false = true) by decide)] at H; exact H
                  clear H
                  have H := H1
                  clear H1
                  have H' := Aside0.mk H
                  clear H
                  go_wp2
                  go_loopg [10] kj40 (fun kq v10 w' => ∃ (x10_4 : Int), v10 = .int .i64 x10_4 ∧ Aside0 (sobriquetlaw06_UcdMaps.l0 kq x10_4 ((rd_T43 t226 (ji34)).f0) ((rd_T43 t226 (ji34)).f1) ((rd_T43 t229 (ji38)).f0) ((rd_T43 t229 (ji38)).f1) = some r) ∧ Aside0 (kq ≤ kj40) ∧ Aside0 (w'.heap[gb233]? = some (.cells #[.int .i64 ((rd_T41 t223 (ji19)).f0), .int .i64 ((rd_T41 t223 (ji19)).f1), .int .i64 ((rd_T41 t223 (ji19)).f2)] 41 (0, 0))) ∧ Aside0 (w'.heap[gb242]? = some (.cells #[.int .i64 ((rd_T43 t226 (ji34)).f0), (.slice A240_1 ((rd_T43 t226 (ji34)).f1).length c240_1)] 43 (0, 0))) ∧ Aside0 (w'.heap[gb243]? = some (.cells #[.int .i64 ((rd_T43 t229 (ji38)).f0), (.slice A241_1 ((rd_T43 t229 (ji38)).f1).length c241_1)] 43 (0, 0))) ∧ Aside0 (Kd.V (Kd.int .i64) 3 w' w.heap.size (fun _ => True) (.slice A241_1 ((rd_T43 t229 (ji38)).f1).length c241_1) ((rd_T43 t229 (ji38)).f1)) ∧ Aside0 (Below w.heap.size w w'))
                  case atStart => exact ⟨(0), (by first | rfl | (simp; done) | (simp [*]; done)), H', ⟨Nat.le_refl _⟩, ⟨by (with_reducible repeat (first | refine blk_drewN ?_ _ | refine blk_drew ?_ | refine blk_alloc ?_ _)); exact BK233.out⟩, ⟨by (with_reducible repeat (first | refine blk_drewN ?_ _ | refine blk_drew ?_ | refine blk_alloc ?_ _)); exact BK242.out⟩, ⟨by (with_reducible repeat (first | refine blk_drewN ?_ _ | refine blk_drew ?_ | refine blk_alloc ?_ _)); exact BK243.out⟩, ⟨by (with_reducible repeat (first | apply Kd.V_alloc | apply Kd.V_drewN | apply Kd.V_drew)); exact HL241_1.out⟩, ⟨by repeat (first | (with_reducible first | exact HB.out | apply below_alloc | apply pw_below_drewN | apply below_drew1 | refine below_set ?_ GE233.out | refine below_set ?_ GE242.out | refine below_set ?_ GE243.out) | exact HB.out)⟩⟩
                  case round =>
                   clear H'
                   try clear c2
                   try clear p2
                   try clear c5
                   try clear p6
                   try clear c8
                   try clear c20
                   try clear c21
                   try clear c23
                   try clear c24
                   try clear c54
                   try clear c57
                   try clear p64
                   try clear c81
                   try clear p2
                   obtain ⟨x10_4, rfl, HA, HK4, BK233, BK242, BK243, HL241_1, HB⟩ := hrel
                   cases gk with
                   | zero => exact absurd HA.out (by simp [sobriquetlaw06_UcdMaps.l0])
                   | succ k4 =>
                    have H := HA.out
                    clear HA
                    simp only [sobriquetlaw06_UcdMaps.l0] at H
                    by_cases c82 : x10_4 < (((rd_T43 t229 (ji38)).f1).length : Int)
                    ·rw [if_pos c82] at H
                     have c82b0 : decide (x10_4 < (((rd_T43 t229 (ji38)).f1).length : Int)) = true := decide_eq_true c82
                     clear c82
                     by_cases c83 : 0 ≤ x10_4
                     ·rw [if_pos c83] at H
                      have c83b0 : decide (0 ≤ x10_4) = true := decide_eq_true c83
                      clear c83
                      replace H := Option.bind_eq_some_iff.mp H
                      obtain ⟨t257, A840, H⟩ := H
                      replace H : (if (t257.length : Int) > 0 then (some false) else (sobriquetlaw06_UcdMaps.l0 k4 (wrap64 (x10_4 + 1)) ((rd_T43 t226 (ji34)).f0) ((rd_T43 t226 (ji34)).f1) ((rd_T43 t229 (ji38)).f0) ((rd_T43 t229 (ji38)).f1))) = some r := H
                      have A84 := Aside0.mk A840
                      clear A840
                      by_cases c85 : (t257.length : Int) > 0
                      ·(rw [if_pos c85] at H; exact absurd H (maps_no1 _ HRr.out))
                      ·rw [if_neg c85] at H
                       have c85b0 : decide (0 < (t257.length : Int)) = false := decide_eq_false c85
                       have c85b1 : decide (0 < t257.length) = false := decide_eq_false (by omega)
                       clear c85
                       have H' := Aside0.mk H
                       clear H
                       have hnb91 := NB243_233.out
                       have hnc91 := NB233_243.out
                       have hnb92 := NB243_242.out
                       have hnc92 := NB242_243.out
                       have hcz93_0 : wr.cell? ⟨gb243, 0, none⟩ = some (.int .i64 ((rd_T43 t229 (ji38)).f0)) := (blk_cell BK243.out 0).trans rfl
                       have hcz93_1 : wr.cell? ⟨gb243, 1, none⟩ = some (.slice A241_1 ((rd_T43 t229 (ji38)).f1).length c241_1) := (blk_cell BK243.out 1).trans rfl
                       have hfz93_0 := blk_frozen BK243.out 0
                       have hfz93_1 := blk_frozen BK243.out 1
                       have p256 : 0 ≤ (x10_4 : Int) := of_decide_eq_true (by first | (with_reducible assumption) | assumption)
                       have q256 : x10_4 < (((rd_T43 t229 (ji38)).f1).length : Int) := of_decide_eq_true (by first | (with_reducible assumption) | assumption)
                       obtain ⟨ad256, e256, hx256_0⟩ := Kd.at_int (Kd.V_reads' HL241_1.out).2.2 x10_4 p256 q256
                       cases e256
                       replace p256 := eq_true p256
                       replace q256 := eq_true q256
                       go_wp2_with (first | ((with_reducible refine gate_callee (f := 27) rfl ?_); refine goesL_ (some 103) rfl rfl Try.func27 (by kernel_rfl) rfl #[.int .i64 (rd ((rd_T43 t229 (ji38)).f1) x10_4)] rfl (by (try simp only [List.map_toArray, List.map_cons, List.map_nil]); first | done | (simp only [hji38]; rfl) | rfl | (simp only [List.length_drop, List.length_take]; rfl)) ?_; (with_reducible refine (ucd_Fold.calls (rd ((rd_T43 t229 (ji38)).f1) x10_4) t257 _ A84.out).mono ?_); rintro e w94 ⟨v258, rfl, ho0, hb⟩; refine ⟨_, rfl, ?_⟩; have n0_ := Aside0.mk (Kd.R_lower ho0 (below_size (by repeat (first | (with_reducible first | exact HB.out | apply below_alloc | apply pw_below_drewN | apply below_drew1 | refine below_set ?_ GE233.out | refine below_set ?_ GE242.out | refine below_set ?_ GE243.out) | exact HB.out)))); have n1_ := Aside0.mk (blk_below (g := gb233) (o := .cells #[.int .i64 ((rd_T41 t223 (ji19)).f0), .int .i64 ((rd_T41 t223 (ji19)).f1), .int .i64 ((rd_T41 t223 (ji19)).f2)] 41 (0, 0)) (by (with_reducible repeat (first | refine blk_drewN ?_ _ | refine blk_drew ?_ | refine blk_alloc ?_ _)); exact BK233.out) hb); have n2_ := Aside0.mk (blk_below (g := gb242) (o := .cells #[.int .i64 ((rd_T43 t226 (ji34)).f0), .slice A240_1 ((rd_T43 t226 (ji34)).f1).length c240_1] 43 (0, 0)) (by (with_reducible repeat (first | refine blk_drewN ?_ _ | refine blk_drew ?_ | refine blk_alloc ?_ _)); exact BK242.out) hb); have n3_ := Aside0.mk (blk_below (g := gb243) (o := .cells #[.int .i64 ((rd_T43 t229 (ji38)).f0), .slice (some ad256) ((rd_T43 t229 (ji38)).f1).length c241_1] 43 (0, 0)) (by (with_reducible repeat (first | refine blk_drewN ?_ _ | refine blk_drew ?_ | refine blk_alloc ?_ _)); exact BK243.out) hb); have n4_ := Aside0.mk (below_step (by repeat (first | (with_reducible first | exact HB.out | apply below_alloc | apply pw_below_drewN | apply below_drew1 | refine below_set ?_ GE233.out | refine below_set ?_ GE242.out | refine below_set ?_ GE243.out) | exact HB.out)) hb); have nv_ := Aside0.mk (Kd.V_elder' HL241_1.out (Kd.R_base ho0) hb); clear HL241_1; have HL241_1 := nv_; clear nv_; clear BK233; clear BK242; clear BK243; clear HB; have HO259 := n0_; have BK233 := n1_; have BK242 := n2_; have BK243 := n3_; have HB := n4_; clear n0_ n1_ n2_ n3_ n4_; (try clear hb); (try clear hb2); (try clear hk); (try clear hi); (try clear ho0); obtain ⟨Ao95, co95, eo95⟩ := Kd.R_slice HO259.out; subst eo95))
                       go_roundg k4
                       case measure => have := HJ4.out; have := HJ21.out; have := HJ40.out; have := HK4.out; omega
                       case rel => exact ⟨(wrap64 (x10_4 + 1)), (by first | rfl | (simp; done) | (simp [*]; done)), H', ⟨by have := HJ4.out; have := HJ21.out; have := HJ40.out; have := HK4.out; omega⟩, ⟨by (with_reducible repeat (first | refine blk_drewN ?_ _ | refine blk_drew ?_ | refine blk_alloc ?_ _)); exact BK233.out⟩, ⟨by (with_reducible repeat (first | refine blk_drewN ?_ _ | refine blk_drew ?_ | refine blk_alloc ?_ _)); exact BK242.out⟩, ⟨by (with_reducible repeat (first | refine blk_drewN ?_ _ | refine blk_drew ?_ | refine blk_alloc ?_ _)); exact BK243.out⟩, ⟨by (with_reducible repeat (first | apply Kd.V_alloc | apply Kd.V_drewN | apply Kd.V_drew)); exact Kd.V_mono HL241_1.out (fun _ _ => trivial)⟩, ⟨by repeat (first | (with_reducible first | exact HB.out | apply below_alloc | apply pw_below_drewN | apply below_drew1 | refine below_set ?_ GE233.out | refine below_set ?_ GE242.out | refine below_set ?_ GE243.out) | exact HB.out)⟩⟩
                     ·rw [if_neg c83] at H
                      exact absurd H (by simp)
                    ·rw [if_neg c82] at H
                     have c82b0 : decide (x10_4 < (((rd_T43 t229 (ji38)).f1).length : Int)) = false := decide_eq_false c82
                     clear c82
                     replace H := Option.bind_eq_some_iff.mp H
                     obtain ⟨t260, A960, H⟩ := H
                     replace H : (if (t260.length : Int) = 0 then ((sobriquetlaw06_wakes.f k4).bind fun t263 => (some t263)) else (some false)) = some r := H
                     have A96 := Aside0.mk A960
                     clear A960
                     by_cases c97 : (t260.length : Int) = 0
                     ·rw [if_pos c97] at H
                      have c97b0 : ((t260.length : Int) == 0) = true := beq_iff_eq.mpr c97
                      have c97b1 : ((t260.length : Int) != 0) = false := bne_eq_false_iff_eq.mpr c97
                      clear c97
                      replace H := Option.bind_eq_some_iff.mp H
                      obtain ⟨t263, A980, H⟩ := H
                      replace H : (some t263) = some r := H
                      have A98 := Aside0.mk A980
                      clear A980
                      obtain rfl := Option.some.inj H
                      have hnb99 := NB243_233.out
                      have hnc99 := NB233_243.out
                      have hnb100 := NB243_242.out
                      have hnc100 := NB242_243.out
                      have hcz101_0 : wr.cell? ⟨gb243, 0, none⟩ = some (.int .i64 ((rd_T43 t229 (ji38)).f0)) := (blk_cell BK243.out 0).trans rfl
                      have hcz101_1 : wr.cell? ⟨gb243, 1, none⟩ = some (.slice A241_1 ((rd_T43 t229 (ji38)).f1).length c241_1) := (blk_cell BK243.out 1).trans rfl
                      have hfz101_0 := blk_frozen BK243.out 0
                      have hfz101_1 := blk_frozen BK243.out 1
                      have hnb102 := NB242_233.out
                      have hnc102 := NB233_242.out
                      have hcz103_0 : wr.cell? ⟨gb242, 0, none⟩ = some (.int .i64 ((rd_T43 t226 (ji34)).f0)) := (blk_cell BK242.out 0).trans rfl
                      have hcz103_1 : wr.cell? ⟨gb242, 1, none⟩ = some (.slice A240_1 ((rd_T43 t226 (ji34)).f1).length c240_1) := (blk_cell BK242.out 1).trans rfl
                      have hfz103_0 := blk_frozen BK242.out 0
                      have hfz103_1 := blk_frozen BK242.out 1
                      go_wp2_with (first | ((with_reducible refine gate_callee (f := 20) rfl ?_); refine goesL_ (some 108) rfl rfl Try.func20 (by kernel_rfl) rfl #[.int .i64 ((rd_T43 t226 (ji34)).f0)] rfl (by (try simp only [List.map_toArray, List.map_cons, List.map_nil]); first | done | (simp only [hji34]; rfl) | rfl | (simp only [List.length_drop, List.length_take]; rfl)) ?_; (with_reducible refine (ucd_Canon.calls ((rd_T43 t226 (ji34)).f0) t260 _ A96.out).mono ?_); rintro e w104 ⟨v261, rfl, ho0, hb⟩; refine ⟨_, rfl, ?_⟩; have n0_ := Aside0.mk (Kd.R_lower ho0 (below_size (by repeat (first | (with_reducible first | exact HB.out | apply below_alloc | apply pw_below_drewN | apply below_drew1 | refine below_set ?_ GE233.out | refine below_set ?_ GE242.out | refine below_set ?_ GE243.out) | exact HB.out)))); have n1_ := Aside0.mk (blk_below (g := gb233) (o := .cells #[.int .i64 ((rd_T41 t223 (ji19)).f0), .int .i64 ((rd_T41 t223 (ji19)).f1), .int .i64 ((rd_T41 t223 (ji19)).f2)] 41 (0, 0)) (by (with_reducible repeat (first | refine blk_drewN ?_ _ | refine blk_drew ?_ | refine blk_alloc ?_ _)); exact BK233.out) hb); have n2_ := Aside0.mk (blk_below (g := gb242) (o := .cells #[.int .i64 ((rd_T43 t226 (ji34)).f0), .slice A240_1 ((rd_T43 t226 (ji34)).f1).length c240_1] 43 (0, 0)) (by (with_reducible repeat (first | refine blk_drewN ?_ _ | refine blk_drew ?_ | refine blk_alloc ?_ _)); exact BK242.out) hb); have n3_ := Aside0.mk (blk_below (g := gb243) (o := .cells #[.int .i64 ((rd_T43 t229 (ji38)).f0), .slice A241_1 ((rd_T43 t229 (ji38)).f1).length c241_1] 43 (0, 0)) (by (with_reducible repeat (first | refine blk_drewN ?_ _ | refine blk_drew ?_ | refine blk_alloc ?_ _)); exact BK243.out) hb); have n4_ := Aside0.mk (below_step (by repeat (first | (with_reducible first | exact HB.out | apply below_alloc | apply pw_below_drewN | apply below_drew1 | refine below_set ?_ GE233.out | refine below_set ?_ GE242.out | refine below_set ?_ GE243.out) | exact HB.out)) hb); clear BK233; clear BK242; clear BK243; clear HB; have HO262 := n0_; have BK233 := n1_; have BK242 := n2_; have BK243 := n3_; have HB := n4_; clear n0_ n1_ n2_ n3_ n4_; (try clear hb); (try clear hb2); (try clear hk); (try clear hi); (try clear ho0); obtain ⟨Ao105, co105, eo105⟩ := Kd.R_slice HO262.out; subst eo105) | (go_at_call 14; (with_reducible refine (sobriquetlaw06_wakes.calls k4  t263 _ A98.out).mono ?_); rintro e w106 ⟨rfl, hb⟩; have n0_ := Aside0.mk (Kd.R_below (by (with_reducible repeat (first | apply Kd.R_alloc | apply Kd.R_drewN | apply Kd.R_drew)); exact HO262.out) hb); have n1_ := Aside0.mk (blk_below (g := gb233) (o := .cells #[.int .i64 ((rd_T41 t223 (ji19)).f0), .int .i64 ((rd_T41 t223 (ji19)).f1), .int .i64 ((rd_T41 t223 (ji19)).f2)] 41 (0, 0)) (by (with_reducible repeat (first | refine blk_drewN ?_ _ | refine blk_drew ?_ | refine blk_alloc ?_ _)); exact BK233.out) hb); have n2_ := Aside0.mk (blk_below (g := gb242) (o := .cells #[.int .i64 ((rd_T43 t226 (ji34)).f0), .slice A240_1 ((rd_T43 t226 (ji34)).f1).length c240_1] 43 (0, 0)) (by (with_reducible repeat (first | refine blk_drewN ?_ _ | refine blk_drew ?_ | refine blk_alloc ?_ _)); exact BK242.out) hb); have n3_ := Aside0.mk (blk_below (g := gb243) (o := .cells #[.int .i64 ((rd_T43 t229 (ji38)).f0), .slice A241_1 ((rd_T43 t229 (ji38)).f1).length c241_1] 43 (0, 0)) (by (with_reducible repeat (first | refine blk_drewN ?_ _ | refine blk_drew ?_ | refine blk_alloc ?_ _)); exact BK243.out) hb); have n4_ := Aside0.mk (below_step (by repeat (first | (with_reducible first | exact HB.out | apply below_alloc | apply pw_below_drewN | apply below_drew1 | refine below_set ?_ GE233.out | refine below_set ?_ GE242.out | refine below_set ?_ GE243.out) | exact HB.out)) hb); clear HO262; clear BK233; clear BK242; clear BK243; clear HB; have HO262 := n0_; have BK233 := n1_; have BK242 := n2_; have BK243 := n3_; have HB := n4_; clear n0_ n1_ n2_ n3_ n4_; (try clear hb); (try clear hb2); (try clear hk); (try clear hi)))
                      go_ret
                      exact ⟨by first | rfl | (simp [errW_none, errW_some] <;> rfl) | (simp only [← hji19, ← hji34, ← hji38]; first | rfl | (simp [errW_none, errW_some] <;> rfl)) | (simp [*, errW_none, errW_some] <;> rfl), by repeat (first | (with_reducible first | exact HB.out | apply below_alloc | apply pw_below_drewN | apply below_drew1 | refine below_set ?_ GE233.out | refine below_set ?_ GE242.out | refine below_set ?_ GE243.out) | exact HB.out)⟩
                     ·(rw [if_neg c97] at H; exact absurd H (maps_no1 _ HRr.out))
              ·rw [if_neg c40] at H
               exact absurd H (by simp)
             ·rw [if_neg c39] at H
              exact absurd H (by simp)
           ·rw [if_neg c36] at H
            exact absurd H (by simp)
          ·rw [if_neg c35] at H
           exact absurd H (by simp)
      ·rw [if_neg c21] at H
       exact absurd H (by simp)
     ·rw [if_neg c20] at H
      exact absurd H (by simp)

/-- THE ONE PURE STATEMENT of sobriquetlaw06_UcdMaps: yours. -/
def sobriquetlaw06_UcdMaps.Pure : Prop := ∀ (a0 : Int), (Lit.int .i64 a0).wf = true → ∃ k, sobriquetlaw06_UcdMaps.f k a0 = some true
theorem sobriquetlaw06_UcdMaps.walk (P : sobriquetlaw06_UcdMaps.Pure) (a0 : Int) (w : World) (w0 : (Lit.int .i64 a0).wf = true) :
  Calls Try.prog 5 #[.int .i64 a0] w fun e w' => e = .returned (.bool true) ∧ Below w.heap.size w w' := by
 obtain ⟨k, h⟩ := P a0 w0
 refine (sobriquetlaw06_UcdMaps.calls k a0 true w h rfl).mono ?_
 rintro e w' ⟨rfl, hd⟩
 exact ⟨rfl, hd⟩

end Go.Proofs.Ytimpcabimncnfaa.M
