-- Written by wip/prn.py of this session out of the translation (function by function); Lean checks it.
-- squeezed
import Derived.Test.YtgcdfchchphpjaaM0
import Derived.Test.YtgcdfchchphpjaaHRunes
import Derived.Test.YtgcdfchchphpjaaHTab
namespace Go.Proofs.Ytgcdfchchphpjaa.M
open Go.RowKit Go.Proofs.YtgcdfchchphpjaaW.PrintWords Go.Proofs.YtgcdfchchphpjaaW.PrintLast Go.Proofs.YtgcdfchchphpjaaW.PrintMore
attribute [local go_sem] max2_int min2_int max_two min_two max_three min_three max_four min_four   -- for this text's walks alone
set_option linter.unusedVariables false
set_option linter.unusedSimpArgs false

/-! ### api_Canon: function 32 -/
mutual
def api_Canon.l0 : Nat → List (S48) → List (S81) → Int → Int → Option ((List (S48)))
 | 0, _, _, _, _ => none
 | k + 1, x1, x33, x34, x35 => if x35 < x34 then (if 0 ≤ x35 then (if x35 < (x33.length : Int) then ((api_runes.f ((rd_T81 x33 x35).f1)).bind fun t134 => ((api_runes.f ((rd_T81 x33 x35).f2)).bind fun t137 => (api_Canon.l1 k x1 t134 t137 x33 x34 x35 (t134.length : Int) 0 ((rd_T81 x33 x35).f0) ((rd_T81 x33 x35).f1) ((rd_T81 x33 x35).f2)))) else (none)) else (none)) else (some x1)
def api_Canon.l1 : Nat → List (S48) → List Int → List Int → List (S81) → Int → Int → Int → Int → Int → ByteArray → ByteArray → Option ((List (S48)))
 | 0, _, _, _, _, _, _, _, _, _, _, _ => none
 | k + 1, x1, x4, x5, x33, x34, x35, x46, x47, x134000, x134001, x134002 => if x47 < x46 then (if 0 ≤ x47 then (if x47 < (x5.length : Int) then (if x47 < (x4.length : Int) then (if x1.length < 5864062014805 then (api_Canon.l1 k (x1 ++ [(⟨rd x5 x47, rd x4 x47, x134000⟩ : S48)]) x4 x5 x33 x34 x35 x46 (wrap64 (x47 + 1)) x134000 x134001 x134002) else (none)) else (none)) else (none)) else (none)) else (api_Canon.l0 k x1 x33 x34 (wrap64 (x35 + 1)))
end
def api_Canon.f (k : Nat)  : Option ((List (S48))) := (api_rows.f).bind fun t129 => (api_Canon.l0 k (([(⟨832, 768, 0⟩ : S48), (⟨833, 769, 0⟩ : S48), (⟨835, 787, 0⟩ : S48), (⟨836, 776, 769⟩ : S48), (⟨884, 697, 0⟩ : S48), (⟨894, 59, 0⟩ : S48), (⟨903, 183, 0⟩ : S48), (⟨2392, 2325, 2364⟩ : S48), (⟨2393, 2326, 2364⟩ : S48), (⟨8175, 96, 0⟩ : S48), (⟨8192, 8194, 0⟩ : S48), (⟨8193, 8195, 0⟩ : S48), (⟨8486, 937, 0⟩ : S48), (⟨8490, 75, 0⟩ : S48), (⟨8491, 197, 0⟩ : S48), (⟨12364, 12363, 12441⟩ : S48), (⟨12366, 12365, 12441⟩ : S48), (⟨12400, 12399, 12441⟩ : S48), (⟨12401, 12399, 12442⟩ : S48), (⟨12460, 12459, 12441⟩ : S48), (⟨12496, 12495, 12441⟩ : S48), (⟨12497, 12495, 12442⟩ : S48), (⟨64285, 1497, 1460⟩ : S48), (⟨64298, 1513, 1473⟩ : S48), (⟨64299, 1513, 1474⟩ : S48)] : List (S48))) t129 (t129.length : Int) 0)
theorem api_Canon.mono_l : ∀ k, (∀ y0 y1 y2 y3, LeO (api_Canon.l0 k y0 y1 y2 y3) (api_Canon.l0 (k + 1) y0 y1 y2 y3)) ∧ (∀ y0 y1 y2 y3 y4 y5 y6 y7 y8 y9 y10, LeO (api_Canon.l1 k y0 y1 y2 y3 y4 y5 y6 y7 y8 y9 y10) (api_Canon.l1 (k + 1) y0 y1 y2 y3 y4 y5 y6 y7 y8 y9 y10))
 | 0 => ⟨fun _ _ _ _ r h => by simp [api_Canon.l0] at h, fun _ _ _ _ _ _ _ _ _ _ _ r h => by simp [api_Canon.l1] at h⟩
 | k + 1 => by
  obtain ⟨ih0, ih1⟩ := api_Canon.mono_l k
  refine ⟨?_, ?_⟩
  ·intro y0 y1 y2 y3
   unfold api_Canon.l0
   repeat' first
   | (with_reducible exact ih0 _ _ _ _)
   | (with_reducible exact ih1 _ _ _ _ _ _ _ _ _ _ _)
   | (with_reducible exact LeO.refl _)
   | (with_reducible exact LeO.none _)
   | (with_reducible refine LeO.ite ?_ ?_)
   | (with_reducible refine LeO.bind ?_ (fun _ => ?_))
   | exact ih0 _ _ _ _
   | exact ih1 _ _ _ _ _ _ _ _ _ _ _
   | exact LeO.none _
   | refine LeO.ite ?_ ?_
   | refine LeO.bind ?_ (fun _ => ?_)
  ·intro y0 y1 y2 y3 y4 y5 y6 y7 y8 y9 y10
   unfold api_Canon.l1
   repeat' first
   | (with_reducible exact ih0 _ _ _ _)
   | (with_reducible exact ih1 _ _ _ _ _ _ _ _ _ _ _)
   | (with_reducible exact LeO.refl _)
   | (with_reducible exact LeO.none _)
   | (with_reducible refine LeO.ite ?_ ?_)
   | (with_reducible refine LeO.bind ?_ (fun _ => ?_))
   | exact ih0 _ _ _ _
   | exact ih1 _ _ _ _ _ _ _ _ _ _ _
   | exact LeO.none _
   | refine LeO.ite ?_ ?_
   | refine LeO.bind ?_ (fun _ => ?_)
theorem api_Canon.mono : ∀ k, LeO (api_Canon.f k ) (api_Canon.f (k + 1) ) := by
 intro  k
 obtain ⟨ih0, ih1⟩ := api_Canon.mono_l k
 unfold api_Canon.f
 repeat' first
   | (with_reducible exact ih0 _ _ _ _)
   | (with_reducible exact ih1 _ _ _ _ _ _ _ _ _ _ _)
   | (with_reducible exact LeO.refl _)
   | (with_reducible exact LeO.none _)
   | (with_reducible refine LeO.ite ?_ ?_)
   | (with_reducible refine LeO.bind ?_ (fun _ => ?_))
   | exact ih0 _ _ _ _
   | exact ih1 _ _ _ _ _ _ _ _ _ _ _
   | exact LeO.none _
   | refine LeO.ite ?_ ?_
   | refine LeO.bind ?_ (fun _ => ?_)
def api_Canon.T5 : Bool × List (List Nat × List Nat) := (true, [([], []), ([0], [0]), ([1], [1]), ([], []), ([3], [3]), ([4, 2], [4]), ([2, 5, 0, 1, 2], [2]), ([5, 6, 0, 1, 2, 3, 4, 5, 6], [5])])
def api_Canon.B5 : List Nat := [0, 1, 3, 0, 8, 31, 63, 127]
theorem api_Canon.tab5 : rtab .any (opsOf Try.f32 5) = api_Canon.T5 := by kernel_rfl
theorem api_Canon.bits5 : waitsOk api_Canon.T5.2 api_Canon.B5 = true := by kernel_rfl
def api_Canon.T9 : Bool × List (List Nat × List Nat) := (true, [([], []), ([], []), ([], []), ([1, 2], [1, 2]), ([3], [3]), ([], []), ([], []), ([5, 6], [5, 6]), ([7], [7]), ([], []), ([9], [9]), ([4, 8, 10], [4, 8, 10]), ([11], [11]), ([0, 12], [0, 12]), ([13, 13, 0, 1, 2, 3, 4, 5, 6, 7, 8, 9, 10, 11, 12, 13], [0, 13])])
def api_Canon.B9 : List Nat := [0, 0, 0, 6, 14, 0, 0, 96, 224, 0, 512, 2046, 4094, 8191, 16383]
theorem api_Canon.tab9 : rtab .any (opsOf Try.f32 9) = api_Canon.T9 := by kernel_rfl
theorem api_Canon.bits9 : waitsOk api_Canon.T9.2 api_Canon.B9 = true := by kernel_rfl
set_option maxHeartbeats 8000000 in
set_option maxRecDepth 100000 in
theorem api_Canon.calls (k : Nat)  (r : List (S48)) (w : World) (h : api_Canon.f k  = some r) :
  Calls Try.prog 32 #[] w fun e w' => ∃ v0_ : Value, e = .returned (v0_) ∧ Kd.R k48 48 w' w.heap.size (fun _ => True) v0_ r ∧ Below w.heap.size w w' := by
 have hu48 := Try.underlying48
 have hu81 := Try.underlying81
 have HB := Aside0.mk (Below.refl w.heap.size w)
 have H : ((api_rows.f).bind fun t129 => (api_Canon.l0 k (([(⟨832, 768, 0⟩ : S48), (⟨833, 769, 0⟩ : S48), (⟨835, 787, 0⟩ : S48), (⟨836, 776, 769⟩ : S48), (⟨884, 697, 0⟩ : S48), (⟨894, 59, 0⟩ : S48), (⟨903, 183, 0⟩ : S48), (⟨2392, 2325, 2364⟩ : S48), (⟨2393, 2326, 2364⟩ : S48), (⟨8175, 96, 0⟩ : S48), (⟨8192, 8194, 0⟩ : S48), (⟨8193, 8195, 0⟩ : S48), (⟨8486, 937, 0⟩ : S48), (⟨8490, 75, 0⟩ : S48), (⟨8491, 197, 0⟩ : S48), (⟨12364, 12363, 12441⟩ : S48), (⟨12366, 12365, 12441⟩ : S48), (⟨12400, 12399, 12441⟩ : S48), (⟨12401, 12399, 12442⟩ : S48), (⟨12460, 12459, 12441⟩ : S48), (⟨12496, 12495, 12441⟩ : S48), (⟨12497, 12495, 12442⟩ : S48), (⟨64285, 1497, 1460⟩ : S48), (⟨64298, 1513, 1473⟩ : S48), (⟨64299, 1513, 1474⟩ : S48)] : List (S48))) t129 (t129.length : Int) 0)) = some r := h
 clear h
 obtain ⟨y126, hy126⟩ : ∃ y_ : List (S48), y_ = (([(⟨832, 768, 0⟩ : S48), (⟨833, 769, 0⟩ : S48), (⟨835, 787, 0⟩ : S48), (⟨836, 776, 769⟩ : S48), (⟨884, 697, 0⟩ : S48), (⟨894, 59, 0⟩ : S48), (⟨903, 183, 0⟩ : S48), (⟨2392, 2325, 2364⟩ : S48), (⟨2393, 2326, 2364⟩ : S48), (⟨8175, 96, 0⟩ : S48), (⟨8192, 8194, 0⟩ : S48), (⟨8193, 8195, 0⟩ : S48), (⟨8486, 937, 0⟩ : S48), (⟨8490, 75, 0⟩ : S48), (⟨8491, 197, 0⟩ : S48), (⟨12364, 12363, 12441⟩ : S48), (⟨12366, 12365, 12441⟩ : S48), (⟨12400, 12399, 12441⟩ : S48), (⟨12401, 12399, 12442⟩ : S48), (⟨12460, 12459, 12441⟩ : S48), (⟨12496, 12495, 12441⟩ : S48), (⟨12497, 12495, 12442⟩ : S48), (⟨64285, 1497, 1460⟩ : S48), (⟨64298, 1513, 1473⟩ : S48), (⟨64299, 1513, 1474⟩ : S48)] : List (S48))) := ⟨_, rfl⟩
 replace H : ((api_rows.f).bind fun t129 => (api_Canon.l0 k y126 t129 (t129.length : Int) 0)) = some r := by first | (rw [hy126]; with_reducible exact H) | (have H2_ := (Option.bind_some _ _).symm.trans H; rw [hy126]; with_reducible exact H2_) | (have H2_ := (Option.bind_some _ _).symm.trans H; with_reducible exact H2_) | with_reducible exact H | (rw [hy126]; exact H) | exact H
 have Ny126 := Aside0.mk hy126
 clear hy126
 replace H := Option.bind_eq_some_iff.mp H
 obtain ⟨t129, A10, H⟩ := H
 replace H : (api_Canon.l0 k y126 t129 (t129.length : Int) 0) = some r := H
 have A1 := Aside0.mk A10
 clear A10
 have H' := Aside0.mk H
 clear H
 go_enter Try.func32, Try.ntmps32
 go_wp2_with (first | ((with_reducible refine gate_dst (N := 32) rfl ?_); refine Kd.R_lit k48 _ 48 ?hg (N := 32) ?hd (xs := ([(⟨832, 768, 0⟩ : S48), (⟨833, 769, 0⟩ : S48), (⟨835, 787, 0⟩ : S48), (⟨836, 776, 769⟩ : S48), (⟨884, 697, 0⟩ : S48), (⟨894, 59, 0⟩ : S48), (⟨903, 183, 0⟩ : S48), (⟨2392, 2325, 2364⟩ : S48), (⟨2393, 2326, 2364⟩ : S48), (⟨8175, 96, 0⟩ : S48), (⟨8192, 8194, 0⟩ : S48), (⟨8193, 8195, 0⟩ : S48), (⟨8486, 937, 0⟩ : S48), (⟨8490, 75, 0⟩ : S48), (⟨8491, 197, 0⟩ : S48), (⟨12364, 12363, 12441⟩ : S48), (⟨12366, 12365, 12441⟩ : S48), (⟨12400, 12399, 12441⟩ : S48), (⟨12401, 12399, 12442⟩ : S48), (⟨12460, 12459, 12441⟩ : S48), (⟨12496, 12495, 12441⟩ : S48), (⟨12497, 12495, 12442⟩ : S48), (⟨64285, 1497, 1460⟩ : S48), (⟨64298, 1513, 1473⟩ : S48), (⟨64299, 1513, 1474⟩ : S48)] : List (S48))) (inner := [.int .i64 832, .int .i64 768, .int .i64 0, .int .i64 833, .int .i64 769, .int .i64 0, .int .i64 835, .int .i64 787, .int .i64 0, .int .i64 836, .int .i64 776, .int .i64 769, .int .i64 884, .int .i64 697, .int .i64 0, .int .i64 894, .int .i64 59, .int .i64 0, .int .i64 903, .int .i64 183, .int .i64 0, .int .i64 2392, .int .i64 2325, .int .i64 2364, .int .i64 2393, .int .i64 2326, .int .i64 2364, .int .i64 8175, .int .i64 96, .int .i64 0, .int .i64 8192, .int .i64 8194, .int .i64 0, .int .i64 8193, .int .i64 8195, .int .i64 0, .int .i64 8486, .int .i64 937, .int .i64 0, .int .i64 8490, .int .i64 75, .int .i64 0, .int .i64 8491, .int .i64 197, .int .i64 0, .int .i64 12364, .int .i64 12363, .int .i64 12441, .int .i64 12366, .int .i64 12365, .int .i64 12441, .int .i64 12400, .int .i64 12399, .int .i64 12441, .int .i64 12401, .int .i64 12399, .int .i64 12442, .int .i64 12460, .int .i64 12459, .int .i64 12441, .int .i64 12496, .int .i64 12495, .int .i64 12441, .int .i64 12497, .int .i64 12495, .int .i64 12442, .int .i64 64285, .int .i64 1497, .int .i64 1460, .int .i64 64298, .int .i64 1513, .int .i64 1473, .int .i64 64299, .int .i64 1513, .int .i64 1474]) (ok := fun _ => True) (okp := fun _ => True) ?hr ?hp (fun _ hk => hk) trivial (Below.refl _ _) (Nat.le_refl _) (by simp) ?_; (case hd => rfl); (case hg => rfl); (case hr => first | (go_simp; done) | (go_simp; rfl)); (case hp => exact (Reps.c3 (show Kd.M k48 _ _ _ (⟨832, 768, 0⟩ : S48) [.int .i64 832, .int .i64 768, .int .i64 0] from (k48_mkM _ _ _ (⟨832, 768, 0⟩ : S48) )) (Reps.c3 (show Kd.M k48 _ _ _ (⟨833, 769, 0⟩ : S48) [.int .i64 833, .int .i64 769, .int .i64 0] from (k48_mkM _ _ _ (⟨833, 769, 0⟩ : S48) )) (Reps.c3 (show Kd.M k48 _ _ _ (⟨835, 787, 0⟩ : S48) [.int .i64 835, .int .i64 787, .int .i64 0] from (k48_mkM _ _ _ (⟨835, 787, 0⟩ : S48) )) (Reps.c3 (show Kd.M k48 _ _ _ (⟨836, 776, 769⟩ : S48) [.int .i64 836, .int .i64 776, .int .i64 769] from (k48_mkM _ _ _ (⟨836, 776, 769⟩ : S48) )) (Reps.c3 (show Kd.M k48 _ _ _ (⟨884, 697, 0⟩ : S48) [.int .i64 884, .int .i64 697, .int .i64 0] from (k48_mkM _ _ _ (⟨884, 697, 0⟩ : S48) )) (Reps.c3 (show Kd.M k48 _ _ _ (⟨894, 59, 0⟩ : S48) [.int .i64 894, .int .i64 59, .int .i64 0] from (k48_mkM _ _ _ (⟨894, 59, 0⟩ : S48) )) (Reps.c3 (show Kd.M k48 _ _ _ (⟨903, 183, 0⟩ : S48) [.int .i64 903, .int .i64 183, .int .i64 0] from (k48_mkM _ _ _ (⟨903, 183, 0⟩ : S48) )) (Reps.c3 (show Kd.M k48 _ _ _ (⟨2392, 2325, 2364⟩ : S48) [.int .i64 2392, .int .i64 2325, .int .i64 2364] from (k48_mkM _ _ _ (⟨2392, 2325, 2364⟩ : S48) )) (Reps.c3 (show Kd.M k48 _ _ _ (⟨2393, 2326, 2364⟩ : S48) [.int .i64 2393, .int .i64 2326, .int .i64 2364] from (k48_mkM _ _ _ (⟨2393, 2326, 2364⟩ : S48) )) (Reps.c3 (show Kd.M k48 _ _ _ (⟨8175, 96, 0⟩ : S48) [.int .i64 8175, .int .i64 96, .int .i64 0] from (k48_mkM _ _ _ (⟨8175, 96, 0⟩ : S48) )) (Reps.c3 (show Kd.M k48 _ _ _ (⟨8192, 8194, 0⟩ : S48) [.int .i64 8192, .int .i64 8194, .int .i64 0] from (k48_mkM _ _ _ (⟨8192, 8194, 0⟩ : S48) )) (Reps.c3 (show Kd.M k48 _ _ _ (⟨8193, 8195, 0⟩ : S48) [.int .i64 8193, .int .i64 8195, .int .i64 0] from (k48_mkM _ _ _ (⟨8193, 8195, 0⟩ : S48) )) (Reps.c3 (show Kd.M k48 _ _ _ (⟨8486, 937, 0⟩ : S48) [.int .i64 8486, .int .i64 937, .int .i64 0] from (k48_mkM _ _ _ (⟨8486, 937, 0⟩ : S48) )) (Reps.c3 (show Kd.M k48 _ _ _ (⟨8490, 75, 0⟩ : S48) [.int .i64 8490, .int .i64 75, .int .i64 0] from (k48_mkM _ _ _ (⟨8490, 75, 0⟩ : S48) )) (Reps.c3 (show Kd.M k48 _ _ _ (⟨8491, 197, 0⟩ : S48) [.int .i64 8491, .int .i64 197, .int .i64 0] from (k48_mkM _ _ _ (⟨8491, 197, 0⟩ : S48) )) (Reps.c3 (show Kd.M k48 _ _ _ (⟨12364, 12363, 12441⟩ : S48) [.int .i64 12364, .int .i64 12363, .int .i64 12441] from (k48_mkM _ _ _ (⟨12364, 12363, 12441⟩ : S48) )) (Reps.c3 (show Kd.M k48 _ _ _ (⟨12366, 12365, 12441⟩ : S48) [.int .i64 12366, .int .i64 12365, .int .i64 12441] from (k48_mkM _ _ _ (⟨12366, 12365, 12441⟩ : S48) )) (Reps.c3 (show Kd.M k48 _ _ _ (⟨12400, 12399, 12441⟩ : S48) [.int .i64 12400, .int .i64 12399, .int .i64 12441] from (k48_mkM _ _ _ (⟨12400, 12399, 12441⟩ : S48) )) (Reps.c3 (show Kd.M k48 _ _ _ (⟨12401, 12399, 12442⟩ : S48) [.int .i64 12401, .int .i64 12399, .int .i64 12442] from (k48_mkM _ _ _ (⟨12401, 12399, 12442⟩ : S48) )) (Reps.c3 (show Kd.M k48 _ _ _ (⟨12460, 12459, 12441⟩ : S48) [.int .i64 12460, .int .i64 12459, .int .i64 12441] from (k48_mkM _ _ _ (⟨12460, 12459, 12441⟩ : S48) )) (Reps.c3 (show Kd.M k48 _ _ _ (⟨12496, 12495, 12441⟩ : S48) [.int .i64 12496, .int .i64 12495, .int .i64 12441] from (k48_mkM _ _ _ (⟨12496, 12495, 12441⟩ : S48) )) (Reps.c3 (show Kd.M k48 _ _ _ (⟨12497, 12495, 12442⟩ : S48) [.int .i64 12497, .int .i64 12495, .int .i64 12442] from (k48_mkM _ _ _ (⟨12497, 12495, 12442⟩ : S48) )) (Reps.c3 (show Kd.M k48 _ _ _ (⟨64285, 1497, 1460⟩ : S48) [.int .i64 64285, .int .i64 1497, .int .i64 1460] from (k48_mkM _ _ _ (⟨64285, 1497, 1460⟩ : S48) )) (Reps.c3 (show Kd.M k48 _ _ _ (⟨64298, 1513, 1473⟩ : S48) [.int .i64 64298, .int .i64 1513, .int .i64 1473] from (k48_mkM _ _ _ (⟨64298, 1513, 1473⟩ : S48) )) (Reps.c3 (show Kd.M k48 _ _ _ (⟨64299, 1513, 1474⟩ : S48) [.int .i64 64299, .int .i64 1513, .int .i64 1474] from (k48_mkM _ _ _ (⟨64299, 1513, 1474⟩ : S48) )) (Reps.none _ _))))))))))))))))))))))))))); intro v127 w2 ho3 hb hg_ hnew_; clear hg_ hnew_; (first | rw [← Ny126.out] at ho3 | (simp only [Int.reduceToNat] at ho3; rw [← Ny126.out] at ho3)); have n0_ := Aside0.mk (Kd.R_lower ho3 (below_size (by repeat (first | (with_reducible first | exact HB.out | apply below_alloc | apply pw_below_drewN | apply below_drew1) | exact HB.out)))); have n1_ := Aside0.mk (below_step (by repeat (first | (with_reducible first | exact HB.out | apply below_alloc | apply pw_below_drewN | apply below_drew1) | exact HB.out)) hb); clear HB; have HO128 := n0_; have HB := n1_; clear n0_ n1_; clear hb ho3) | ((with_reducible refine gate_callee (f := 44) rfl ?_); refine goesL_ (some 33) rfl rfl Try.func44 (by kernel_rfl) rfl #[] rfl (by (try simp only [List.map_toArray, List.map_cons, List.map_nil]); first | done | rfl | (simp only [List.length_drop, List.length_take]; rfl)) ?_; (with_reducible refine (api_rows.calls  t129 _ A1.out).mono ?_); rintro e w4 ⟨v130, rfl, ho0, hb⟩; refine ⟨_, rfl, ?_⟩; have n0_ := Aside0.mk (Kd.R_below (by (with_reducible repeat (first | apply Kd.R_alloc | apply Kd.R_drewN | apply Kd.R_drew)); exact HO128.out) hb); have n1_ := Aside0.mk (Kd.R_lower ho0 (below_size (by repeat (first | (with_reducible first | exact HB.out | apply below_alloc | apply pw_below_drewN | apply below_drew1) | exact HB.out)))); have n2_ := Aside0.mk (below_step (by repeat (first | (with_reducible first | exact HB.out | apply below_alloc | apply pw_below_drewN | apply below_drew1) | exact HB.out)) hb); clear HO128; clear HB; have HO128 := n0_; have HO131 := n1_; have HB := n2_; clear n0_ n1_ n2_; (try clear hb); (try clear hb2); (try clear hk); (try clear hi); (try clear ho0); obtain ⟨Ao5, co5, eo5⟩ := Kd.R_slice HO131.out; subst eo5))
 go_loopg [1, 35] k (fun kq v1 v35 w' => ∃ (x1_1 : List (S48)) (x35_1 : Int), v35 = .int .i64 x35_1 ∧ Aside0 (api_Canon.l0 kq x1_1 t129 (t129.length : Int) x35_1 = some r) ∧ Aside0 (kq ≤ k) ∧ Aside0 (Kd.R k48 48 w' w.heap.size (fun _ => True) v1 x1_1) ∧ Aside0 (Kd.R k81 81 w' w.heap.size (fun _ => True) (.slice Ao5 t129.length co5) t129) ∧ Aside0 (Below w.heap.size w w'))
 case atStart => exact ⟨(y126), (0), (by first | rfl | (simp; done) | (simp [*]; done)), H', ⟨Nat.le_refl _⟩, ⟨by (with_reducible repeat (first | apply Kd.R_alloc | apply Kd.R_drewN | apply Kd.R_drew)); exact HO128.out⟩, ⟨by (with_reducible repeat (first | apply Kd.R_alloc | apply Kd.R_drewN | apply Kd.R_drew)); exact HO131.out⟩, ⟨by repeat (first | (with_reducible first | exact HB.out | apply below_alloc | apply pw_below_drewN | apply below_drew1) | exact HB.out)⟩⟩
 case round =>
  clear H'
  try clear p2
  try clear c3
  try clear c4
  obtain ⟨x1_1, x35_1, rfl, HA, HK1, HO_1, HO_33, HB⟩ := hrel
  cases gk with
  | zero => exact absurd HA.out (by simp [api_Canon.l0])
  | succ k1 =>
   have H := HA.out
   clear HA
   simp only [api_Canon.l0] at H
   by_cases c6 : x35_1 < (t129.length : Int)
   rotate_left
   ·rw [if_neg c6] at H
    have c6b0 : decide (x35_1 < (t129.length : Int)) = false := decide_eq_false c6
    clear c6
    obtain rfl := Option.some.inj H
    go_wp2
    go_ret
    exact ⟨_, by first | rfl | (simp [errW_none, errW_some] <;> rfl) | (simp [*, errW_none, errW_some] <;> rfl), by (with_reducible repeat (first | apply Kd.R_alloc | apply Kd.R_drewN | apply Kd.R_drew)); exact HO_1.out, by repeat (first | (with_reducible first | exact HB.out | apply below_alloc | apply pw_below_drewN | apply below_drew1) | exact HB.out)⟩
   rw [if_pos c6] at H
   have c6b0 : decide (x35_1 < (t129.length : Int)) = true := decide_eq_true c6
   clear c6
   by_cases c7 : 0 ≤ x35_1
   rotate_left
   ·rw [if_neg c7] at H
    exact absurd H (by simp)
   rw [if_pos c7] at H
   have c7b0 : decide (0 ≤ x35_1) = true := decide_eq_true c7
   clear c7
   by_cases c8 : x35_1 < (t129.length : Int)
   rotate_left
   ·rw [if_neg c8] at H
    exact absurd H (by simp)
   rw [if_pos c8] at H
   have c8b0 : decide (x35_1 < (t129.length : Int)) = true := decide_eq_true c8
   clear c8
   replace H := Option.bind_eq_some_iff.mp H
   obtain ⟨t134, A90, H⟩ := H
   replace H : ((api_runes.f ((rd_T81 t129 x35_1).f2)).bind fun t137 => (api_Canon.l1 k1 x1_1 t134 t137 t129 (t129.length : Int) x35_1 (t134.length : Int) 0 ((rd_T81 t129 x35_1).f0) ((rd_T81 t129 x35_1).f1) ((rd_T81 t129 x35_1).f2))) = some r := H
   have A9 := Aside0.mk A90
   clear A90
   replace H := Option.bind_eq_some_iff.mp H
   obtain ⟨t137, A100, H⟩ := H
   replace H : (api_Canon.l1 k1 x1_1 t134 t137 t129 (t129.length : Int) x35_1 (t134.length : Int) 0 ((rd_T81 t129 x35_1).f0) ((rd_T81 t129 x35_1).f1) ((rd_T81 t129 x35_1).f2)) = some r := H
   have A10 := Aside0.mk A100
   clear A100
   have H' := Aside0.mk H
   clear H
   have p132 : 0 ≤ (x35_1 : Int) := of_decide_eq_true (by first | (with_reducible assumption) | assumption)
   have q132 : x35_1 < (t129.length : Int) := of_decide_eq_true (by first | (with_reducible assumption) | assumption)
   obtain ⟨ad132, e132, hx132_0, hx132_1, hx132_2⟩ := at_T81 (Kd.R_reads' HO_33.out).2.2 x35_1 p132 q132
   cases e132
   replace p132 := eq_true p132
   replace q132 := eq_true q132
   try go_wp2_with (first | ((with_reducible refine gate_dst (N := 3) rfl ?_); refine box_event ?hg (N := 3) ?hd (cs := #[.int .i64 0, .string (⟨#[]⟩ : ByteArray), .string (⟨#[]⟩ : ByteArray)]) (t := 81) ?hr ?_; (case hd => rfl); (case hg => rfl); (case hr => first | (go_simp; done) | (go_simp; rfl)); intro gb133 hg w11 hbox hb; have n0_ := Aside0.mk (Kd.R_below (by (with_reducible repeat (first | apply Kd.R_alloc | apply Kd.R_drewN | apply Kd.R_drew)); exact HO_1.out) hb); have n1_ := Aside0.mk (Kd.R_below (Kd.R_elderB (by (with_reducible repeat (first | apply Kd.R_alloc | apply Kd.R_drewN | apply Kd.R_drew)); exact HO_33.out) gb133 (Nat.le_of_eq hg.symm)) hb); have n2_ := Aside0.mk (below_step (by repeat (first | (with_reducible first | exact HB.out | apply below_alloc | apply pw_below_drewN | apply below_drew1) | exact HB.out)) hb); have n3_ := Aside0.mk (hbox); have n4_ := Aside0.mk ((by rw [hg]; exact (below_size (by repeat (first | (with_reducible first | exact HB.out | apply below_alloc | apply pw_below_drewN | apply below_drew1) | exact HB.out))) : w.heap.size ≤ gb133)); have n5_ := Aside0.mk ((by rw [hg]; exact (below_size (by repeat (first | (with_reducible first | exact HB.out | apply below_alloc | apply pw_below_drewN | apply below_drew1) | exact HB.out))) : w.heap.size ≤ gb133)); clear HO_1; clear HO_33; clear HB; have HO_1 := n0_; have HO_33 := n1_; have HB := n2_; have BK133 := n3_; have GW133 := n4_; have GE133 := n5_; clear n0_ n1_ n2_ n3_ n4_ n5_; clear hb hbox hg; have hcz12_0 : w11.cell? ⟨gb133, 0, none⟩ = some (.int .i64 0) := (blk_cell BK133.out 0).trans rfl; have hcz12_1 : w11.cell? ⟨gb133, 1, none⟩ = some (.string (⟨#[]⟩ : ByteArray)) := (blk_cell BK133.out 1).trans rfl; have hcz12_2 : w11.cell? ⟨gb133, 2, none⟩ = some (.string (⟨#[]⟩ : ByteArray)) := (blk_cell BK133.out 2).trans rfl; have hfz12_0 := blk_frozen BK133.out 0; have hfz12_1 := blk_frozen BK133.out 1; have hfz12_2 := blk_frozen BK133.out 2))
   have n0_ : Aside0 (Kd.R k48 48 (((w11.setCell ⟨gb133, 0, none⟩ (.int .i64 ((rd_T81 t129 x35_1).f0))).setCell ⟨gb133, 1, none⟩ (.string ((rd_T81 t129 x35_1).f1))).setCell ⟨gb133, 2, none⟩ (.string ((rd_T81 t129 x35_1).f2))) w.heap.size (fun _ => True) u1 x1_1) := ⟨by (with_reducible repeat (first | apply Kd.R_alloc | apply Kd.R_drewN | apply Kd.R_drew)); exact Kd.R_mono (Kd.R_far (p := ⟨gb133, 2, none⟩) (Kd.R_far (p := ⟨gb133, 1, none⟩) (Kd.R_far (p := ⟨gb133, 0, none⟩) (Kd.R_types HO_1.out BK133.out (by decide)) (fun _ hk => hk.2) (.int .i64 ((rd_T81 t129 x35_1).f0))) (fun _ hk => hk.2) (.string ((rd_T81 t129 x35_1).f1))) (fun _ hk => hk.2) (.string ((rd_T81 t129 x35_1).f2))) (fun _ hk => trivial)⟩
   have n1_ : Aside0 (Kd.R k81 81 (((w11.setCell ⟨gb133, 0, none⟩ (.int .i64 ((rd_T81 t129 x35_1).f0))).setCell ⟨gb133, 1, none⟩ (.string ((rd_T81 t129 x35_1).f1))).setCell ⟨gb133, 2, none⟩ (.string ((rd_T81 t129 x35_1).f2))) w.heap.size (fun k_ => k_ ≠ gb133) (.slice (some ad132) t129.length co5) t129) := ⟨by (with_reducible repeat (first | apply Kd.R_alloc | apply Kd.R_drewN | apply Kd.R_drew)); exact Kd.R_mono (Kd.R_far (p := ⟨gb133, 2, none⟩) (Kd.R_far (p := ⟨gb133, 1, none⟩) (Kd.R_far (p := ⟨gb133, 0, none⟩) (Kd.R_mono HO_33.out (fun k_ hk => (⟨hk, hk.2⟩ : _ ∧ k_ ≠ gb133))) (fun _ hk => hk.2) (.int .i64 ((rd_T81 t129 x35_1).f0))) (fun _ hk => hk.2) (.string ((rd_T81 t129 x35_1).f1))) (fun _ hk => hk.2) (.string ((rd_T81 t129 x35_1).f2))) (fun _ hk => hk.1.2)⟩
   have n2_ : Aside0 ((((w11.setCell ⟨gb133, 0, none⟩ (.int .i64 ((rd_T81 t129 x35_1).f0))).setCell ⟨gb133, 1, none⟩ (.string ((rd_T81 t129 x35_1).f1))).setCell ⟨gb133, 2, none⟩ (.string ((rd_T81 t129 x35_1).f2))).heap[gb133]? = some (.cells #[.int .i64 ((rd_T81 t129 x35_1).f0), .string ((rd_T81 t129 x35_1).f1), .string ((rd_T81 t129 x35_1).f2)] 81 (0, 0))) := ⟨by (with_reducible repeat (first | refine blk_drewN ?_ _ | refine blk_drew ?_ | refine blk_alloc ?_ _)); refine blk_put (cs := #[.int .i64 ((rd_T81 t129 x35_1).f0), .string ((rd_T81 t129 x35_1).f1), .string (⟨#[]⟩ : ByteArray)]) ?_ 2 _ rfl; (with_reducible repeat (first | refine blk_drewN ?_ _ | refine blk_drew ?_ | refine blk_alloc ?_ _)); refine blk_put (cs := #[.int .i64 ((rd_T81 t129 x35_1).f0), .string (⟨#[]⟩ : ByteArray), .string (⟨#[]⟩ : ByteArray)]) ?_ 1 _ rfl; (with_reducible repeat (first | refine blk_drewN ?_ _ | refine blk_drew ?_ | refine blk_alloc ?_ _)); refine blk_put (cs := #[.int .i64 0, .string (⟨#[]⟩ : ByteArray), .string (⟨#[]⟩ : ByteArray)]) ?_ 0 _ rfl; (with_reducible repeat (first | refine blk_drewN ?_ _ | refine blk_drew ?_ | refine blk_alloc ?_ _)); exact BK133.out⟩
   have n3_ : Aside0 (Below w.heap.size w (((w11.setCell ⟨gb133, 0, none⟩ (.int .i64 ((rd_T81 t129 x35_1).f0))).setCell ⟨gb133, 1, none⟩ (.string ((rd_T81 t129 x35_1).f1))).setCell ⟨gb133, 2, none⟩ (.string ((rd_T81 t129 x35_1).f2)))) := ⟨by repeat (first | (with_reducible first | exact HB.out | apply below_alloc | apply pw_below_drewN | apply below_drew1 | refine below_set ?_ GE133.out) | exact HB.out)⟩
   (try clear HO_1)
   (try clear HO_33)
   (try clear BK133)
   (try clear HB)
   generalize (((w11.setCell ⟨gb133, 0, none⟩ (.int .i64 ((rd_T81 t129 x35_1).f0))).setCell ⟨gb133, 1, none⟩ (.string ((rd_T81 t129 x35_1).f1))).setCell ⟨gb133, 2, none⟩ (.string ((rd_T81 t129 x35_1).f2))) = w13 at n0_ n1_ n2_ n3_ ⊢
   have HO_1 := n0_
   have HO_33 := n1_
   have BK133 := n2_
   have HB := n3_
   clear n0_ n1_ n2_ n3_
   have n0_ := Aside0.mk (Kd.R_drew HO_1.out)
   have n1_ := Aside0.mk (Kd.R_drew HO_33.out)
   have n2_ := Aside0.mk (blk_drew BK133.out)
   have n3_ := Aside0.mk (below_drew1 HB.out)
   clear HO_1
   clear HO_33
   clear BK133
   clear HB
   have HO_1 := n0_
   have HO_33 := n1_
   have BK133 := n2_
   have HB := n3_
   clear n0_ n1_ n2_ n3_
   refine start_ (n := 8) (S := fun w' => w'.cell? ⟨gb133, 0, none⟩ = some (.int .i64 ((rd_T81 t129 x35_1).f0)) ∧ w'.cell? ⟨gb133, 1, none⟩ = some (.string ((rd_T81 t129 x35_1).f1)) ∧ w'.cell? ⟨gb133, 2, none⟩ = some (.string ((rd_T81 t129 x35_1).f2))) (ds := []) #[false, false, false, false, false, false, false, false] (by kernel_rfl) rfl rfl ⟨(blk_cell BK133.out 0).trans rfl, (blk_cell BK133.out 1).trans rfl, (blk_cell BK133.out 2).trans rfl⟩ (fun hHeld => ?_); refine with_tabW api_Canon.tab5 api_Canon.bits5 (fun HT_ HW_ => ?_)
   generalize w13.drew = w14 at HO_1 HO_33 BK133 HB hHeld ⊢
   refine pure_ (i := 0) (N := some 39) (v := ?_) (a' := ?_) #[true, false, false, false, false, false, false, false] rfl rfl (any_of HT_.out (by kernel_rfl)) (fun _ _ _ h => h) (Or.inl ⟨by rfl, ?_⟩) ?_ ?_
   rotate_left
   ·intro w'
    go_simp
    with_reducible rfl
   rotate_left
   ·simp only [Act.put, List.setIfInBounds_toArray, List.set_cons_zero, List.set_cons_succ, i64_w, i32_w]
    rfl
   refine pure_ (i := 3) (N := some 42) (v := ?_) (a' := ?_) #[true, false, false, true, false, false, false, false] rfl rfl (any_of HT_.out (by kernel_rfl)) (fun _ _ _ h => h) (Or.inl ⟨by rfl, ?_⟩) ?_ ?_
   rotate_left
   ·intro w'
    go_simp
    with_reducible rfl
   rotate_left
   ·simp only [Act.put, List.setIfInBounds_toArray, List.set_cons_zero, List.set_cons_succ, i64_w, i32_w]
    rfl
   refine take_ (i := 1) (N := some 40) (v := ?_) (a' := ?_) #[true, true, false, true, false, false, false, false] rfl rfl (take_ofW HT_.out HW_.out (by kernel_rfl)) (fun _ _ _ h => h) (Or.inl ⟨by rfl, ?_⟩) hHeld ?_ ?_
   rotate_left
   ·rintro w' ⟨s0, s1, s2⟩
    go_simp
    with_reducible rfl
   rotate_left
   ·simp only [Act.put, List.setIfInBounds_toArray, List.set_cons_zero, List.set_cons_succ, i64_w, i32_w]
    rfl
   refine take_ (i := 4) (N := some 43) (v := ?_) (a' := ?_) #[true, true, false, true, true, false, false, false] rfl rfl (take_ofW HT_.out HW_.out (by kernel_rfl)) (fun _ _ _ h => h) (Or.inl ⟨by rfl, ?_⟩) hHeld ?_ ?_
   rotate_left
   ·rintro w' ⟨s0, s1, s2⟩
    go_simp
    with_reducible rfl
   rotate_left
   ·simp only [Act.put, List.setIfInBounds_toArray, List.set_cons_zero, List.set_cons_succ, i64_w, i32_w]
    rfl
   refine one_ (i := 2) (N := some 41) #[true, true, true, true, true, false, false, false] rfl rfl (one_of HT_.out (by kernel_rfl)) (by decide) (fun K hK => ?_)
   refine goes_ Try.func29 (by kernel_rfl) rfl #[.string ((rd_T81 t129 x35_1).f1)] (by rfl) rfl rfl (by (try simp only [List.map_toArray, List.map_cons, List.map_nil]); first | done | rfl | (simp only [List.length_drop, List.length_take]; rfl)) ?_
   with_reducible refine (api_runes.calls ((rd_T81 t129 x35_1).f1) t134 _ A9.out).mono ?_
   rintro e w15 ⟨v135, rfl, ho0, hb⟩
   refine ⟨_, rfl, ?_⟩
   have n0_ := Aside0.mk (Kd.R_below (by (with_reducible repeat (first | apply Kd.R_alloc | apply Kd.R_drewN | apply Kd.R_drew)); exact HO_1.out) hb)
   have n1_ := Aside0.mk (Kd.R_below (by (with_reducible repeat (first | apply Kd.R_alloc | apply Kd.R_drewN | apply Kd.R_drew)); exact HO_33.out) hb)
   have n2_ := Aside0.mk (Kd.R_lower ho0 (below_size (by repeat (first | (with_reducible first | exact HB.out | apply below_alloc | apply pw_below_drewN | apply below_drew1 | refine below_set ?_ GE133.out) | exact HB.out))))
   have n3_ := Aside0.mk (blk_below (g := gb133) (o := .cells #[.int .i64 ((rd_T81 t129 x35_1).f0), .string ((rd_T81 t129 x35_1).f1), .string ((rd_T81 t129 x35_1).f2)] 81 (0, 0)) (by (with_reducible repeat (first | refine blk_drewN ?_ _ | refine blk_drew ?_ | refine blk_alloc ?_ _)); exact BK133.out) hb)
   have n4_ := Aside0.mk (below_step (by repeat (first | (with_reducible first | exact HB.out | apply below_alloc | apply pw_below_drewN | apply below_drew1 | refine below_set ?_ GE133.out) | exact HB.out)) hb)
   clear HO_1
   clear HO_33
   clear BK133
   clear HB
   have HO_1 := n0_
   have HO_33 := n1_
   have HO136 := n2_
   have BK133 := n3_
   have HB := n4_
   clear n0_ n1_ n2_ n3_ n4_
   (try clear hb)
   (try clear hb2)
   (try clear hk)
   (try clear hi)
   (try clear ho0)
   refine hK.out _ _ ⟨(blk_cell BK133.out 0).trans rfl, (blk_cell BK133.out 1).trans rfl, (blk_cell BK133.out 2).trans rfl⟩ (fun hHeld => ?_)
   clear hK K
   refine norm_ (a' := ?_) ?_ ?_
   rotate_left
   ·show Act.put _ (some 41) _ = _
    simp only [Act.put, List.setIfInBounds_toArray, List.set_cons_zero, List.set_cons_succ, i64_w, i32_w]
    rfl
   refine one_ (i := 5) (N := some 44) #[true, true, true, true, true, true, false, false] rfl rfl (one_of HT_.out (by kernel_rfl)) (by decide) (fun K hK => ?_)
   refine goes_ Try.func29 (by kernel_rfl) rfl #[.string ((rd_T81 t129 x35_1).f2)] (by rfl) rfl rfl (by (try simp only [List.map_toArray, List.map_cons, List.map_nil]); first | done | rfl | (simp only [List.length_drop, List.length_take]; rfl)) ?_
   with_reducible refine (api_runes.calls ((rd_T81 t129 x35_1).f2) t137 _ A10.out).mono ?_
   rintro e w16 ⟨v138, rfl, ho0, hb⟩
   refine ⟨_, rfl, ?_⟩
   have n0_ := Aside0.mk (Kd.R_below (by (with_reducible repeat (first | apply Kd.R_alloc | apply Kd.R_drewN | apply Kd.R_drew)); exact HO_1.out) hb)
   have n1_ := Aside0.mk (Kd.R_below (by (with_reducible repeat (first | apply Kd.R_alloc | apply Kd.R_drewN | apply Kd.R_drew)); exact HO_33.out) hb)
   have n2_ := Aside0.mk (Kd.R_elder' (by (with_reducible repeat (first | apply Kd.R_alloc | apply Kd.R_drewN | apply Kd.R_drew)); exact HO136.out) (Kd.R_base ho0) hb)
   have n3_ := Aside0.mk (Kd.R_lower (Kd.R_new' ho0 (Kd.R_lt (by (with_reducible repeat (first | apply Kd.R_alloc | apply Kd.R_drewN | apply Kd.R_drew)); exact HO136.out))) (below_size (by repeat (first | (with_reducible first | exact HB.out | apply below_alloc | apply pw_below_drewN | apply below_drew1 | refine below_set ?_ GE133.out) | exact HB.out))))
   have n4_ := Aside0.mk (blk_below (g := gb133) (o := .cells #[.int .i64 ((rd_T81 t129 x35_1).f0), .string ((rd_T81 t129 x35_1).f1), .string ((rd_T81 t129 x35_1).f2)] 81 (0, 0)) (by (with_reducible repeat (first | refine blk_drewN ?_ _ | refine blk_drew ?_ | refine blk_alloc ?_ _)); exact BK133.out) hb)
   have n5_ := Aside0.mk (below_step (by repeat (first | (with_reducible first | exact HB.out | apply below_alloc | apply pw_below_drewN | apply below_drew1 | refine below_set ?_ GE133.out) | exact HB.out)) hb)
   clear HO_1
   clear HO_33
   clear HO136
   clear BK133
   clear HB
   have HO_1 := n0_
   have HO_33 := n1_
   have HO136 := n2_
   have HO139 := n3_
   have BK133 := n4_
   have HB := n5_
   clear n0_ n1_ n2_ n3_ n4_ n5_
   (try clear hb)
   (try clear hb2)
   (try clear hk)
   (try clear hi)
   (try clear ho0)
   refine hK.out _ _ ⟨(blk_cell BK133.out 0).trans rfl, (blk_cell BK133.out 1).trans rfl, (blk_cell BK133.out 2).trans rfl⟩ (fun hHeld => ?_)
   clear hK K
   refine norm_ (a' := ?_) ?_ ?_
   rotate_left
   ·show Act.put _ (some 44) _ = _
    simp only [Act.put, List.setIfInBounds_toArray, List.set_cons_zero, List.set_cons_succ, i64_w, i32_w]
    rfl
   refine pure_ (i := 6) (N := some 4) (v := ?_) (a' := ?_) #[true, true, true, true, true, true, true, false] rfl rfl (any_of HT_.out (by kernel_rfl)) (fun _ _ _ h => h) (Or.inl ⟨by rfl, ?_⟩) ?_ ?_
   rotate_left
   ·intro w'
    go_simp
    with_reducible rfl
   rotate_left
   ·simp only [Act.put, List.setIfInBounds_toArray, List.set_cons_zero, List.set_cons_succ, i64_w, i32_w]
    rfl
   refine pure_ (i := 7) (N := some 5) (v := ?_) (a' := ?_) #[true, true, true, true, true, true, true, true] rfl rfl (any_of HT_.out (by kernel_rfl)) (fun _ _ _ h => h) (Or.inl ⟨by rfl, ?_⟩) ?_ ?_
   rotate_left
   ·intro w'
    go_simp
    with_reducible rfl
   rotate_left
   ·simp only [Act.put, List.setIfInBounds_toArray, List.set_cons_zero, List.set_cons_succ, i64_w, i32_w]
    rfl
   refine done_ (done_of HT_.out (by kernel_rfl)) ?_
   obtain ⟨Ao17, co17, eo17⟩ := Kd.R_slice HO136.out
   subst eo17
   try go_wp2
   go_loopg [1, 47] k1 (fun kq v1 v47 w' => ∃ (x1_2 : List (S48)) (x47_2 : Int), v47 = .int .i64 x47_2 ∧ Aside0 (api_Canon.l1 kq x1_2 t134 t137 t129 (t129.length : Int) x35_1 (t134.length : Int) x47_2 ((rd_T81 t129 x35_1).f0) ((rd_T81 t129 x35_1).f1) ((rd_T81 t129 x35_1).f2) = some r) ∧ Aside0 (kq ≤ k1) ∧ Aside0 (Kd.R k48 48 w' w.heap.size (fun _ => True) v1 x1_2) ∧ Aside0 (Kd.R (Kd.int .i64) 3 w' w.heap.size (fun k_ => some k_ ≠ (v138 : Value).ownBlock) (.slice Ao17 t134.length co17) t134) ∧ Aside0 (Kd.R (Kd.int .i64) 3 w' w.heap.size (fun k_ => some k_ ≠ ((.slice Ao17 t134.length co17) : Value).ownBlock) v138 t137) ∧ Aside0 (Kd.R k81 81 w' w.heap.size (fun k_ => k_ ≠ gb133) (.slice (some ad132) t129.length co5) t129) ∧ Aside0 (w'.heap[gb133]? = some (.cells #[.int .i64 ((rd_T81 t129 x35_1).f0), .string ((rd_T81 t129 x35_1).f1), .string ((rd_T81 t129 x35_1).f2)] 81 (0, 0))) ∧ Aside0 (Below w.heap.size w w'))
   case atStart => exact ⟨(x1_1), (0), (by first | rfl | (simp; done) | (simp [*]; done)), H', ⟨Nat.le_refl _⟩, ⟨by (with_reducible repeat (first | apply Kd.R_alloc | apply Kd.R_drewN | apply Kd.R_drew)); exact HO_1.out⟩, ⟨by (with_reducible repeat (first | apply Kd.R_alloc | apply Kd.R_drewN | apply Kd.R_drew)); exact Kd.R_mono HO136.out (fun _ hk => hk.2)⟩, ⟨by (with_reducible repeat (first | apply Kd.R_alloc | apply Kd.R_drewN | apply Kd.R_drew)); exact Kd.R_mono HO139.out (fun _ hk => hk.2)⟩, ⟨by (with_reducible repeat (first | apply Kd.R_alloc | apply Kd.R_drewN | apply Kd.R_drew)); exact HO_33.out⟩, ⟨by (with_reducible repeat (first | refine blk_drewN ?_ _ | refine blk_drew ?_ | refine blk_alloc ?_ _)); exact BK133.out⟩, ⟨by repeat (first | (with_reducible first | exact HB.out | apply below_alloc | apply pw_below_drewN | apply below_drew1 | refine below_set ?_ GE133.out) | exact HB.out)⟩⟩
   case round =>
    clear H'
    try clear p1
    try clear q1
    try clear hx1
    try clear c2
    try clear p2
    try clear c3
    try clear c4
    try clear c6
    try clear c6b0
    try clear c7
    try clear c7b0
    try clear c8
    try clear c8b0
    try clear p13
    try clear q13
    try clear hx13
    try clear hcz12_0
    try clear hcz12_1
    try clear hcz12_2
    try clear hfz12_0
    try clear hfz12_1
    try clear hfz12_2
    try clear hx132_0
    try clear hx132_1
    try clear hx132_2
    try clear p132
    try clear p2
    try clear q132
    obtain ⟨x1_2, x47_2, rfl, HA, HK2, HO_1, HO_4, HO_5, HO_33, BK133, HB⟩ := hrel
    cases gk with
    | zero => exact absurd HA.out (by simp [api_Canon.l1])
    | succ k2 =>
     have H := HA.out
     clear HA
     simp only [api_Canon.l1] at H
     by_cases c18 : x47_2 < (t134.length : Int)
     rotate_left
     ·rw [if_neg c18] at H
      have c18b0 : decide (x47_2 < (t134.length : Int)) = false := decide_eq_false c18
      clear c18
      have H' := Aside0.mk H
      clear H
      go_wp2
      go_roundg k2
      case measure => have := HK1.out; have := HK2.out; omega
      case rel => exact ⟨(x1_2), (wrap64 (x35_1 + 1)), (by first | rfl | (simp; done) | (simp [*]; done)), H', ⟨by have := HK1.out; have := HK2.out; omega⟩, ⟨by (with_reducible repeat (first | apply Kd.R_alloc | apply Kd.R_drewN | apply Kd.R_drew)); exact HO_1.out⟩, ⟨by (with_reducible repeat (first | apply Kd.R_alloc | apply Kd.R_drewN | apply Kd.R_drew)); exact Kd.R_mono HO_33.out (fun _ hk => trivial)⟩, ⟨by repeat (first | (with_reducible first | exact HB.out | apply below_alloc | apply pw_below_drewN | apply below_drew1 | refine below_set ?_ GE133.out) | exact HB.out)⟩⟩
     rw [if_pos c18] at H
     have c18b0 : decide (x47_2 < (t134.length : Int)) = true := decide_eq_true c18
     clear c18
     by_cases c19 : 0 ≤ x47_2
     rotate_left
     ·rw [if_neg c19] at H
      exact absurd H (by simp)
     rw [if_pos c19] at H
     have c19b0 : decide (0 ≤ x47_2) = true := decide_eq_true c19
     clear c19
     by_cases c20 : x47_2 < (t137.length : Int)
     rotate_left
     ·rw [if_neg c20] at H
      exact absurd H (by simp)
     rw [if_pos c20] at H
     have c20b0 : decide (x47_2 < (t137.length : Int)) = true := decide_eq_true c20
     clear c20
     by_cases c21 : x47_2 < (t134.length : Int)
     rotate_left
     ·rw [if_neg c21] at H
      exact absurd H (by simp)
     rw [if_pos c21] at H
     have c21b0 : decide (x47_2 < (t134.length : Int)) = true := decide_eq_true c21
     clear c21
     by_cases c22 : x1_2.length < 5864062014805
     rotate_left
     ·rw [if_neg c22] at H
      exact absurd H (by simp)
     rw [if_pos c22] at H
     have LMc22 := Aside0.mk c22
     clear c22
     obtain ⟨y142, hy142⟩ : ∃ y_ : List (S48), y_ = (x1_2 ++ [(⟨rd t137 x47_2, rd t134 x47_2, ((rd_T81 t129 x35_1).f0)⟩ : S48)]) := ⟨_, rfl⟩
     replace H : (api_Canon.l1 k2 y142 t134 t137 t129 (t129.length : Int) x35_1 (t134.length : Int) (wrap64 (x47_2 + 1)) ((rd_T81 t129 x35_1).f0) ((rd_T81 t129 x35_1).f1) ((rd_T81 t129 x35_1).f2)) = some r := by first | (rw [hy142]; with_reducible exact H) | (have H2_ := (Option.bind_some _ _).symm.trans H; rw [hy142]; with_reducible exact H2_) | (have H2_ := (Option.bind_some _ _).symm.trans H; with_reducible exact H2_) | with_reducible exact H | (rw [hy142]; exact H) | exact H
     have Ny142 := Aside0.mk hy142
     clear hy142
     have H' := Aside0.mk H
     clear H
     try go_wp2
     have n0_ := Aside0.mk (Kd.R_drew HO_1.out)
     have n1_ := Aside0.mk (Kd.R_drew HO_4.out)
     have n2_ := Aside0.mk (Kd.R_drew HO_5.out)
     have n3_ := Aside0.mk (Kd.R_drew HO_33.out)
     have n4_ := Aside0.mk (blk_drew BK133.out)
     have n5_ := Aside0.mk (below_drew1 HB.out)
     clear HO_1
     clear HO_4
     clear HO_5
     clear HO_33
     clear BK133
     clear HB
     have HO_1 := n0_
     have HO_4 := n1_
     have HO_5 := n2_
     have HO_33 := n3_
     have BK133 := n4_
     have HB := n5_
     clear n0_ n1_ n2_ n3_ n4_ n5_
     obtain ⟨Ao24, co24, eo24⟩ := Kd.R_slice HO_5.out
     (first | subst eo24 | (injection eo24 with f1_ f2_ f3_; have f4_ := f1_.symm; have f5_ := f3_.symm; clear f1_ f2_ f3_; subst f4_; subst f5_))
     have p140 : 0 ≤ (x47_2 : Int) := of_decide_eq_true (by first | (with_reducible assumption) | assumption)
     have q140 : x47_2 < (t137.length : Int) := of_decide_eq_true (by first | (with_reducible assumption) | assumption)
     obtain ⟨ad140, e140, hx140_0⟩ := Kd.at_int (Kd.R_reads' HO_5.out).2.2 x47_2 p140 q140
     cases e140
     replace p140 := eq_true p140
     replace q140 := eq_true q140
     have p141 : 0 ≤ (x47_2 : Int) := of_decide_eq_true (by first | (with_reducible assumption) | assumption)
     have q141 : x47_2 < (t134.length : Int) := of_decide_eq_true (by first | (with_reducible assumption) | assumption)
     obtain ⟨ad141, e141, hx141_0⟩ := Kd.at_int (Kd.R_reads' HO_4.out).2.2 x47_2 p141 q141
     cases e141
     replace p141 := eq_true p141
     replace q141 := eq_true q141
     refine start_ (n := 15) (S := fun w' => w'.cell? ⟨gb133, 0, none⟩ = some (.int .i64 ((rd_T81 t129 x35_1).f0)) ∧ w'.cell? ⟨gb133, 1, none⟩ = some (.string ((rd_T81 t129 x35_1).f1)) ∧ w'.cell? ⟨gb133, 2, none⟩ = some (.string ((rd_T81 t129 x35_1).f2)) ∧ w'.cell? (ad140.add (x47_2).toNat) = some (.int .i64 (rd t137 x47_2)) ∧ w'.cell? (ad141.add (x47_2).toNat) = some (.int .i64 (rd t134 x47_2))) (ds := [12, 13]) #[false, false, false, false, false, false, false, false, false, false, false, false, false, false, false] (by kernel_rfl) rfl rfl ⟨(blk_cell BK133.out 0).trans rfl, (blk_cell BK133.out 1).trans rfl, (blk_cell BK133.out 2).trans rfl, hx140_0, hx141_0⟩ (fun hHeld => ?_); refine with_tabW api_Canon.tab9 api_Canon.bits9 (fun HT_ HW_ => ?_)
     generalize wr.drew = w23 at HO_1 HO_4 HO_5 HO_33 BK133 HB hx140_0 hx141_0 hHeld ⊢
     refine pure_ (i := 0) (N := some 50) (v := ?_) (a' := ?_) #[true, false, false, false, false, false, false, false, false, false, false, false, false, false, false] rfl rfl (any_of HT_.out (by kernel_rfl)) (fun _ _ _ h => h) (Or.inl ⟨by rfl, ?_⟩) ?_ ?_
     rotate_left
     ·intro w'
      go_simp
      with_reducible rfl
     rotate_left
     ·simp only [Act.put, List.setIfInBounds_toArray, List.set_cons_zero, List.set_cons_succ, i64_w, i32_w]
      rfl
     refine pure_ (i := 1) (N := some 51) (v := ?_) (a' := ?_) #[true, true, false, false, false, false, false, false, false, false, false, false, false, false, false] rfl rfl (any_of HT_.out (by kernel_rfl)) (fun _ _ _ h => h) (Or.inl ⟨by rfl, ?_⟩) ?_ ?_
     rotate_left
     ·intro w'
      go_simp
      with_reducible rfl
     rotate_left
     ·simp only [Act.put, List.setIfInBounds_toArray, List.set_cons_zero, List.set_cons_succ, i64_w, i32_w]
      rfl
     refine pure_ (i := 2) (N := some 52) (v := ?_) (a' := ?_) #[true, true, true, false, false, false, false, false, false, false, false, false, false, false, false] rfl rfl (any_of HT_.out (by kernel_rfl)) (fun _ _ _ h => h) (Or.inl ⟨by rfl, ?_⟩) ?_ ?_
     rotate_left
     ·intro w'
      go_simp
      with_reducible rfl
     rotate_left
     ·simp only [Act.put, List.setIfInBounds_toArray, List.set_cons_zero, List.set_cons_succ, i64_w, i32_w]
      rfl
     refine pure_ (i := 3) (N := some 53) (v := ?_) (a' := ?_) #[true, true, true, true, false, false, false, false, false, false, false, false, false, false, false] rfl rfl (any_of HT_.out (by kernel_rfl)) (fun _ _ _ h => h) (Or.inl ⟨by rfl, ?_⟩) ?_ ?_
     rotate_left
     ·intro w'
      go_simp
      with_reducible rfl
     rotate_left
     ·simp only [Act.put, List.setIfInBounds_toArray, List.set_cons_zero, List.set_cons_succ, i64_w, i32_w]
      rfl
     refine pure_ (i := 5) (N := some 55) (v := ?_) (a' := ?_) #[true, true, true, true, false, true, false, false, false, false, false, false, false, false, false] rfl rfl (any_of HT_.out (by kernel_rfl)) (fun _ _ _ h => h) (Or.inl ⟨by rfl, ?_⟩) ?_ ?_
     rotate_left
     ·intro w'
      go_simp
      with_reducible rfl
     rotate_left
     ·simp only [Act.put, List.setIfInBounds_toArray, List.set_cons_zero, List.set_cons_succ, i64_w, i32_w]
      rfl
     refine pure_ (i := 6) (N := some 56) (v := ?_) (a' := ?_) #[true, true, true, true, false, true, true, false, false, false, false, false, false, false, false] rfl rfl (any_of HT_.out (by kernel_rfl)) (fun _ _ _ h => h) (Or.inl ⟨by rfl, ?_⟩) ?_ ?_
     rotate_left
     ·intro w'
      go_simp
      with_reducible rfl
     rotate_left
     ·simp only [Act.put, List.setIfInBounds_toArray, List.set_cons_zero, List.set_cons_succ, i64_w, i32_w]
      rfl
     refine pure_ (i := 7) (N := some 57) (v := ?_) (a' := ?_) #[true, true, true, true, false, true, true, true, false, false, false, false, false, false, false] rfl rfl (any_of HT_.out (by kernel_rfl)) (fun _ _ _ h => h) (Or.inl ⟨by rfl, ?_⟩) ?_ ?_
     rotate_left
     ·intro w'
      go_simp
      with_reducible rfl
     rotate_left
     ·simp only [Act.put, List.setIfInBounds_toArray, List.set_cons_zero, List.set_cons_succ, i64_w, i32_w]
      rfl
     refine pure_ (i := 9) (N := some 59) (v := ?_) (a' := ?_) #[true, true, true, true, false, true, true, true, false, true, false, false, false, false, false] rfl rfl (any_of HT_.out (by kernel_rfl)) (fun _ _ _ h => h) (Or.inl ⟨by rfl, ?_⟩) ?_ ?_
     rotate_left
     ·intro w'
      go_simp
      with_reducible rfl
     rotate_left
     ·simp only [Act.put, List.setIfInBounds_toArray, List.set_cons_zero, List.set_cons_succ, i64_w, i32_w]
      rfl
     refine take_ (i := 4) (N := some 54) (v := ?_) (a' := ?_) #[true, true, true, true, true, true, true, true, false, true, false, false, false, false, false] rfl rfl (take_ofW HT_.out HW_.out (by kernel_rfl)) (fun _ _ _ h => h) (Or.inl ⟨by rfl, ?_⟩) hHeld ?_ ?_
     rotate_left
     ·rintro w' ⟨s0, s1, s2, s3, s4⟩
      go_simp
      with_reducible rfl
     rotate_left
     ·simp only [Act.put, List.setIfInBounds_toArray, List.set_cons_zero, List.set_cons_succ, i64_w, i32_w]
      rfl
     refine take_ (i := 8) (N := some 58) (v := ?_) (a' := ?_) #[true, true, true, true, true, true, true, true, true, true, false, false, false, false, false] rfl rfl (take_ofW HT_.out HW_.out (by kernel_rfl)) (fun _ _ _ h => h) (Or.inl ⟨by rfl, ?_⟩) hHeld ?_ ?_
     rotate_left
     ·rintro w' ⟨s0, s1, s2, s3, s4⟩
      go_simp
      with_reducible rfl
     rotate_left
     ·simp only [Act.put, List.setIfInBounds_toArray, List.set_cons_zero, List.set_cons_succ, i64_w, i32_w]
      rfl
     refine take_ (i := 10) (N := some 60) (v := ?_) (a' := ?_) #[true, true, true, true, true, true, true, true, true, true, true, false, false, false, false] rfl rfl (take_ofW HT_.out HW_.out (by kernel_rfl)) (fun _ _ _ h => h) (Or.inl ⟨by rfl, ?_⟩) hHeld ?_ ?_
     rotate_left
     ·rintro w' ⟨s0, s1, s2, s3, s4⟩
      go_simp
      with_reducible rfl
     rotate_left
     ·simp only [Act.put, List.setIfInBounds_toArray, List.set_cons_zero, List.set_cons_succ, i64_w, i32_w]
      rfl
     refine pure_ (i := 11) (N := some 61) (v := ?_) (a' := ?_) #[true, true, true, true, true, true, true, true, true, true, true, true, false, false, false] rfl rfl (any_of HT_.out (by kernel_rfl)) (fun _ _ _ h => h) (Or.inl ⟨by rfl, ?_⟩) ?_ ?_
     rotate_left
     ·intro w'
      go_simp
      with_reducible rfl
     rotate_left
     ·simp only [Act.put, List.setIfInBounds_toArray, List.set_cons_zero, List.set_cons_succ, i64_w, i32_w]
      rfl
     refine last_ (i := 12) (N := some 62) #[true, true, true, true, true, true, true, true, true, true, true, true, true, false, false] rfl rfl (one_of HT_.out (by kernel_rfl)) (by decide) (fun K hK => ?_)
     refine value_ (w1 := ?_) (v := ?_) (by rfl) rfl ?_ ?_
     rotate_left 2
     ·go_simp
      constructor
      ·rfl
      ·rfl
     refine hK.out _ _ ?_
     clear hK K
     refine norm_ (a' := ?_) ?_ ?_
     rotate_left
     ·show Act.put _ (some 62) _ = _
      simp only [Act.put, List.setIfInBounds_toArray, List.set_cons_zero, List.set_cons_succ, i64_w, i32_w]
      rfl
     refine last_ (i := 13) (N := some 63) #[true, true, true, true, true, true, true, true, true, true, true, true, true, true, false] rfl rfl (one_of HT_.out (by kernel_rfl)) (by decide) (fun K hK => ?_)
     refine Kd.R_append_step k48 (w0 := w) w.heap.size (by rfl) (.tmp 50) (.tmp 62) 46 48 (.agg #[(.int .i64 0), (.int .i64 0), (.int .i64 0)]) 24 rfl Try.underlying46 info48 rfl (by decide) (by omega) u1 x1_2 (⟨rd t137 x47_2, rd t134 x47_2, ((rd_T81 t129 x35_1).f0)⟩ : S48) [.int .i64 (rd t137 x47_2), .int .i64 (rd t134 x47_2), .int .i64 ((rd_T81 t129 x35_1).f0)] (fun _ => True) (fun _ => False) rfl rfl ?aP (fun _ hk => hk.elim) ?aF ?aO ?aB ?aS ?aL ?_
     (case aP => exact k48_mkM _ _ _ (⟨rd t137 x47_2, rd t134 x47_2, ((rd_T81 t129 x35_1).f0)⟩ : S48))
     (case aB => exact (by repeat (first | (with_reducible first | exact HB.out | apply below_alloc | apply pw_below_drewN | apply below_drew1 | refine below_set ?_ GE133.out) | exact HB.out)))
     (case aF => exact (fun _ _ => trivial))
     (case aO => exact (by (with_reducible repeat (first | apply Kd.R_alloc | apply Kd.R_drewN | apply Kd.R_drew)); exact HO_1.out))
     (case aS => exact (below_size (by repeat (first | (with_reducible first | exact HB.out | apply below_alloc | apply pw_below_drewN | apply below_drew1 | refine below_set ?_ GE133.out) | exact HB.out))))
     (case aL => have := LMc22.out; omega)
     intro v143 w25 ho hb hg hat
     rw [← Ny142.out] at ho
     have n0_ := Aside0.mk (Kd.R_over' (by (with_reducible repeat (first | apply Kd.R_alloc | apply Kd.R_drewN | apply Kd.R_drew)); exact HO_4.out) (Kd.R_typed (by (with_reducible repeat (first | apply Kd.R_alloc | apply Kd.R_drewN | apply Kd.R_drew)); exact HO_1.out)) (by decide) hg)
     have n1_ := Aside0.mk (Kd.R_over' (by (with_reducible repeat (first | apply Kd.R_alloc | apply Kd.R_drewN | apply Kd.R_drew)); exact HO_5.out) (Kd.R_typed (by (with_reducible repeat (first | apply Kd.R_alloc | apply Kd.R_drewN | apply Kd.R_drew)); exact HO_1.out)) (by decide) hg)
     have n2_ := Aside0.mk (Kd.R_over' (by (with_reducible repeat (first | apply Kd.R_alloc | apply Kd.R_drewN | apply Kd.R_drew)); exact HO_33.out) (Kd.R_typed (by (with_reducible repeat (first | apply Kd.R_alloc | apply Kd.R_drewN | apply Kd.R_drew)); exact HO_1.out)) (by decide) hg)
     have n3_ := Aside0.mk (blk_grown (g := gb133) (o := .cells #[.int .i64 ((rd_T81 t129 x35_1).f0), .string ((rd_T81 t129 x35_1).f1), .string ((rd_T81 t129 x35_1).f2)] 81 (0, 0)) (by (with_reducible repeat (first | refine blk_drewN ?_ _ | refine blk_drew ?_ | refine blk_alloc ?_ _)); exact BK133.out) hg (Kd.R_ne HO_1.out BK133.out (by decide)))
     have n4_ := Aside0.mk (hb)
     have n5_ := Aside0.mk (ho)
     clear HO_4
     clear HO_5
     clear HO_33
     clear BK133
     clear HB
     clear HO_1
     have HO_4 := n0_
     have HO_5 := n1_
     have HO_33 := n2_
     have BK133 := n3_
     have HB := n4_
     have HO144 := n5_
     clear n0_ n1_ n2_ n3_ n4_ n5_
     clear ho hb hg hat
     refine hK.out _ _ ?_
     clear hK K
     refine norm_ (a' := ?_) ?_ ?_
     rotate_left
     ·show Act.put _ (some 63) _ = _
      simp only [Act.put, List.setIfInBounds_toArray, List.set_cons_zero, List.set_cons_succ, i64_w, i32_w]
      rfl
     refine pure_ (i := 14) (N := some 1) (v := ?_) (a' := ?_) #[true, true, true, true, true, true, true, true, true, true, true, true, true, true, true] rfl rfl (any_of HT_.out (by kernel_rfl)) (fun _ _ _ h => h) (Or.inl ⟨by rfl, ?_⟩) ?_ ?_
     rotate_left
     ·intro w'
      go_simp
      with_reducible rfl
     rotate_left
     ·simp only [Act.put, List.setIfInBounds_toArray, List.set_cons_zero, List.set_cons_succ, i64_w, i32_w]
      rfl
     refine done_ (done_of HT_.out (by kernel_rfl)) ?_
     try go_wp2
     go_roundg k2
     case measure => have := HK1.out; have := HK2.out; omega
     case rel => exact ⟨(y142), (wrap64 (x47_2 + 1)), (by first | rfl | (simp; done) | (simp [*]; done)), H', ⟨by have := HK1.out; have := HK2.out; omega⟩, ⟨by (with_reducible repeat (first | apply Kd.R_alloc | apply Kd.R_drewN | apply Kd.R_drew)); exact HO144.out⟩, ⟨by (with_reducible repeat (first | apply Kd.R_alloc | apply Kd.R_drewN | apply Kd.R_drew)); exact HO_4.out⟩, ⟨by (with_reducible repeat (first | apply Kd.R_alloc | apply Kd.R_drewN | apply Kd.R_drew)); exact HO_5.out⟩, ⟨by (with_reducible repeat (first | apply Kd.R_alloc | apply Kd.R_drewN | apply Kd.R_drew)); exact HO_33.out⟩, ⟨by (with_reducible repeat (first | refine blk_drewN ?_ _ | refine blk_drew ?_ | refine blk_alloc ?_ _)); exact BK133.out⟩, ⟨by repeat (first | (with_reducible first | exact HB.out | apply below_alloc | apply pw_below_drewN | apply below_drew1 | refine below_set ?_ GE133.out) | exact HB.out)⟩⟩

/-! ### api_Excluded: function 34 -/
def api_Excluded.f  : Option (List Int) := some (([836, 2392, 2393, 64285, 64298, 64299] : List Int))
set_option maxHeartbeats 8000000 in
set_option maxRecDepth 100000 in
theorem api_Excluded.calls  (r : List Int) (w : World) (h : api_Excluded.f  = some r) :
  Calls Try.prog 34 #[] w fun e w' => ∃ v0_ : Value, e = .returned (v0_) ∧ Kd.R (Kd.int .i64) 3 w' w.heap.size (fun _ => True) v0_ r ∧ Below w.heap.size w w' := by
 have HB := Aside0.mk (Below.refl w.heap.size w)
 have H : (some (([836, 2392, 2393, 64285, 64298, 64299] : List Int))) = some r := h
 clear h
 obtain ⟨y145, hy145⟩ : ∃ y_ : List Int, y_ = (([836, 2392, 2393, 64285, 64298, 64299] : List Int)) := ⟨_, rfl⟩
 replace H : (some y145) = some r := by first | (rw [hy145]; with_reducible exact H) | (have H2_ := (Option.bind_some _ _).symm.trans H; rw [hy145]; with_reducible exact H2_) | (have H2_ := (Option.bind_some _ _).symm.trans H; with_reducible exact H2_) | with_reducible exact H | (rw [hy145]; exact H) | exact H
 have Ny145 := Aside0.mk hy145
 clear hy145
 obtain rfl := Option.some.inj H
 go_enter Try.func34, Try.ntmps34
 go_wp2_with (first | ((with_reducible refine gate_dst (N := 1) rfl ?_); refine Kd.R_lit (Kd.int .i64) _ 3 ?hg (N := 1) ?hd (xs := ([836, 2392, 2393, 64285, 64298, 64299] : List Int)) (inner := [.int .i64 836, .int .i64 2392, .int .i64 2393, .int .i64 64285, .int .i64 64298, .int .i64 64299]) (ok := fun _ => True) (okp := fun _ => True) ?hr ?hp (fun _ hk => hk) trivial (Below.refl _ _) (Nat.le_refl _) (by simp) ?_; (case hd => rfl); (case hg => rfl); (case hr => first | (go_simp; done) | (go_simp; rfl)); (case hp => exact (Reps.one (show Kd.M (Kd.int .i64) _ _ _ 836 [.int .i64 836] from rfl) (Reps.one (show Kd.M (Kd.int .i64) _ _ _ 2392 [.int .i64 2392] from rfl) (Reps.one (show Kd.M (Kd.int .i64) _ _ _ 2393 [.int .i64 2393] from rfl) (Reps.one (show Kd.M (Kd.int .i64) _ _ _ 64285 [.int .i64 64285] from rfl) (Reps.one (show Kd.M (Kd.int .i64) _ _ _ 64298 [.int .i64 64298] from rfl) (Reps.one (show Kd.M (Kd.int .i64) _ _ _ 64299 [.int .i64 64299] from rfl) (Reps.none _ _)))))))); intro v146 w1 ho2 hb hg_ hnew_; clear hg_ hnew_; (first | rw [← Ny145.out] at ho2 | (simp only [Int.reduceToNat] at ho2; rw [← Ny145.out] at ho2)); have n0_ := Aside0.mk (Kd.R_lower ho2 (below_size (by repeat (first | (with_reducible first | exact HB.out | apply below_alloc | apply pw_below_drewN | apply below_drew1) | exact HB.out)))); have n1_ := Aside0.mk (below_step (by repeat (first | (with_reducible first | exact HB.out | apply below_alloc | apply pw_below_drewN | apply below_drew1) | exact HB.out)) hb); clear HB; have HO147 := n0_; have HB := n1_; clear n0_ n1_; clear hb ho2))
 go_ret
 exact ⟨_, by first | rfl | (simp [errW_none, errW_some] <;> rfl) | (simp [*, errW_none, errW_some] <;> rfl), by (with_reducible repeat (first | apply Kd.R_alloc | apply Kd.R_drewN | apply Kd.R_drew)); exact HO147.out, by repeat (first | (with_reducible first | exact HB.out | apply below_alloc | apply pw_below_drewN | apply below_drew1) | exact HB.out)⟩

/-! ### ranges_Flat: function 35 -/
def ranges_Flat.l0 : Nat → Int → List (S84) → Int → Int → Option (Int)
 | 0, _, _, _, _ => none
 | k + 1, x1, x7, x8, x9 => if x9 < x8 then (if 0 ≤ x9 then (if x9 < (x7.length : Int) then (if ((rd_T84 x7 x9).f0) ≤ x1 then (if x1 ≤ ((rd_T84 x7 x9).f1) then (some ((rd_T84 x7 x9).f2)) else (ranges_Flat.l0 k x1 x7 x8 (wrap64 (x9 + 1)))) else (ranges_Flat.l0 k x1 x7 x8 (wrap64 (x9 + 1)))) else (none)) else (none)) else (some 0)
def ranges_Flat.f (k : Nat) (l0 : List (S84)) (a1 : Int) : Option (Int) := ranges_Flat.l0 k a1 l0 (l0.length : Int) 0
theorem ranges_Flat.mono_l : ∀ k, (∀ y0 y1 y2 y3, LeO (ranges_Flat.l0 k y0 y1 y2 y3) (ranges_Flat.l0 (k + 1) y0 y1 y2 y3))
 | 0 => fun _ _ _ _ r h => by simp [ranges_Flat.l0] at h
 | k + 1 => by
  have ih0 := ranges_Flat.mono_l k
  ·intro y0 y1 y2 y3
   unfold ranges_Flat.l0
   repeat' first
   | (with_reducible exact ih0 _ _ _ _)
   | (with_reducible exact LeO.refl _)
   | (with_reducible exact LeO.none _)
   | (with_reducible refine LeO.ite ?_ ?_)
   | (with_reducible refine LeO.bind ?_ (fun _ => ?_))
   | exact ih0 _ _ _ _
   | exact LeO.none _
   | refine LeO.ite ?_ ?_
   | refine LeO.bind ?_ (fun _ => ?_)
theorem ranges_Flat.mono : ∀ a0 a1 k, LeO (ranges_Flat.f k a0 a1) (ranges_Flat.f (k + 1) a0 a1) := by
 intro a0 a1 k
 have ih0 := ranges_Flat.mono_l k
 unfold ranges_Flat.f
 repeat' first
   | (with_reducible exact ih0 _ _ _ _)
   | (with_reducible exact LeO.refl _)
   | (with_reducible exact LeO.none _)
   | (with_reducible refine LeO.ite ?_ ?_)
   | (with_reducible refine LeO.bind ?_ (fun _ => ?_))
   | exact ih0 _ _ _ _
   | exact LeO.none _
   | refine LeO.ite ?_ ?_
   | refine LeO.bind ?_ (fun _ => ?_)
set_option maxHeartbeats 8000000 in
set_option maxRecDepth 100000 in
theorem ranges_Flat.calls (k : Nat) (A0 : Option Addr) (c0 : Nat) (l0 : List (S84)) (a1 : Int) (r : Int) (w : World) (hr0 : Kd.C k84 w A0 l0.length l0) (hc0 : l0.length ≤ c0) (h : ranges_Flat.f k l0 a1 = some r) :
  Calls Try.prog 35 #[.slice A0 l0.length c0, .int .i64 a1] w fun e w' => e = .returned (.int .i64 r) ∧ Below w.heap.size w w' := by
 have hu84 := Try.underlying84
 have HR0 := Aside0.mk hr0
 have HC0 := Aside0.mk hc0
 clear hr0 hc0
 have HB := Aside0.mk (Below.refl w.heap.size w)
 have H : (ranges_Flat.l0 k a1 l0 (l0.length : Int) 0) = some r := h
 clear h
 have H' := Aside0.mk H
 clear H
 go_enter Try.func35, Try.ntmps35
 go_wp2
 go_loopg [9] k (fun kq v9 w' => ∃ (x9_1 : Int), v9 = .int .i64 x9_1 ∧ Aside0 (ranges_Flat.l0 kq a1 l0 (l0.length : Int) x9_1 = some r) ∧ Aside0 (kq ≤ k) ∧ Aside0 (Below w.heap.size w w'))
 case atStart => exact ⟨(0), (by first | rfl | (simp; done) | (simp [*]; done)), H', ⟨Nat.le_refl _⟩, ⟨by repeat (first | (with_reducible first | exact HB.out | apply below_alloc | apply pw_below_drewN | apply below_drew1) | exact HB.out)⟩⟩
 case round =>
  clear H'
  try clear p2
  obtain ⟨x9_1, rfl, HA, HK1, HB⟩ := hrel
  cases gk with
  | zero => exact absurd HA.out (by simp [ranges_Flat.l0])
  | succ k1 =>
   have H := HA.out
   clear HA
   simp only [ranges_Flat.l0] at H
   by_cases c3 : x9_1 < (l0.length : Int)
   rotate_left
   ·rw [if_neg c3] at H
    have c3b0 : decide (x9_1 < (l0.length : Int)) = false := decide_eq_false c3
    clear c3
    obtain rfl := Option.some.inj H
    go_wp2
    go_ret
    exact ⟨by first | rfl | (simp [errW_none, errW_some] <;> rfl) | (simp [*, errW_none, errW_some] <;> rfl), by repeat (first | (with_reducible first | exact HB.out | apply below_alloc | apply pw_below_drewN | apply below_drew1) | exact HB.out)⟩
   rw [if_pos c3] at H
   have c3b0 : decide (x9_1 < (l0.length : Int)) = true := decide_eq_true c3
   clear c3
   by_cases c4 : 0 ≤ x9_1
   rotate_left
   ·rw [if_neg c4] at H
    exact absurd H (by simp)
   rw [if_pos c4] at H
   have c4b0 : decide (0 ≤ x9_1) = true := decide_eq_true c4
   clear c4
   by_cases c5 : x9_1 < (l0.length : Int)
   rotate_left
   ·rw [if_neg c5] at H
    exact absurd H (by simp)
   rw [if_pos c5] at H
   have c5b0 : decide (x9_1 < (l0.length : Int)) = true := decide_eq_true c5
   clear c5
   by_cases c6 : ((rd_T84 l0 x9_1).f0) ≤ a1
   rotate_left
   ·rw [if_neg c6] at H
    have c6b0 : decide (((rd_T84 l0 x9_1).f0) ≤ a1) = false := decide_eq_false c6
    clear c6
    have H' := Aside0.mk H
    clear H
    have p148 : 0 ≤ (x9_1 : Int) := of_decide_eq_true (by first | (with_reducible assumption) | assumption)
    have q148 : x9_1 < (l0.length : Int) := of_decide_eq_true (by first | (with_reducible assumption) | assumption)
    obtain ⟨ad148, e148, hx148_0, hx148_1, hx148_2⟩ := at_T84 HR0.out x9_1 p148 q148
    cases e148
    replace hx148_0 := (HB.out.cell (World.block_lt_of_cell? w _ hx148_0)).trans hx148_0
    replace hx148_1 := (HB.out.cell (World.block_lt_of_cell? w _ hx148_1)).trans hx148_1
    replace hx148_2 := (HB.out.cell (World.block_lt_of_cell? w _ hx148_2)).trans hx148_2
    replace p148 := eq_true p148
    replace q148 := eq_true q148
    go_wp2_with (first | ((with_reducible refine gate_dst (N := 6) rfl ?_); refine box_event ?hg (N := 6) ?hd (cs := #[.int .i64 0, .int .i64 0, .int .i64 0]) (t := 84) ?hr ?_; (case hd => rfl); (case hg => rfl); (case hr => first | (go_simp; done) | (go_simp; rfl)); intro gb149 hg w12 hbox hb; have n0_ := Aside0.mk (below_step (by repeat (first | (with_reducible first | exact HB.out | apply below_alloc | apply pw_below_drewN | apply below_drew1) | exact HB.out)) hb); have n1_ := Aside0.mk (hbox); have n2_ := Aside0.mk ((by rw [hg]; exact (below_size (by repeat (first | (with_reducible first | exact HB.out | apply below_alloc | apply pw_below_drewN | apply below_drew1) | exact HB.out))) : w.heap.size ≤ gb149)); have n3_ := Aside0.mk ((by rw [hg]; exact (below_size (by repeat (first | (with_reducible first | exact HB.out | apply below_alloc | apply pw_below_drewN | apply below_drew1) | exact HB.out))) : w.heap.size ≤ gb149)); clear HB; have HB := n0_; have BK149 := n1_; have GW149 := n2_; have GE149 := n3_; clear n0_ n1_ n2_ n3_; clear hb hbox hg; have hcz13_0 : w12.cell? ⟨gb149, 0, none⟩ = some (.int .i64 0) := (blk_cell BK149.out 0).trans rfl; have hcz13_1 : w12.cell? ⟨gb149, 1, none⟩ = some (.int .i64 0) := (blk_cell BK149.out 1).trans rfl; have hcz13_2 : w12.cell? ⟨gb149, 2, none⟩ = some (.int .i64 0) := (blk_cell BK149.out 2).trans rfl; have hfz13_0 := blk_frozen BK149.out 0; have hfz13_1 := blk_frozen BK149.out 1; have hfz13_2 := blk_frozen BK149.out 2))
    go_roundg k1
    case measure => have := HK1.out; omega
    case rel => exact ⟨(wrap64 (x9_1 + 1)), (by first | rfl | (simp; done) | (simp [*]; done)), H', ⟨by have := HK1.out; omega⟩, ⟨by repeat (first | (with_reducible first | exact HB.out | apply below_alloc | apply pw_below_drewN | apply below_drew1 | refine below_set ?_ GE149.out) | exact HB.out)⟩⟩
   rw [if_pos c6] at H
   have c6b0 : decide (((rd_T84 l0 x9_1).f0) ≤ a1) = true := decide_eq_true c6
   clear c6
   by_cases c7 : a1 ≤ ((rd_T84 l0 x9_1).f1)
   ·rw [if_pos c7] at H
    have c7b0 : decide (a1 ≤ ((rd_T84 l0 x9_1).f1)) = true := decide_eq_true c7
    clear c7
    obtain rfl := Option.some.inj H
    have p148 : 0 ≤ (x9_1 : Int) := of_decide_eq_true (by first | (with_reducible assumption) | assumption)
    have q148 : x9_1 < (l0.length : Int) := of_decide_eq_true (by first | (with_reducible assumption) | assumption)
    obtain ⟨ad148, e148, hx148_0, hx148_1, hx148_2⟩ := at_T84 HR0.out x9_1 p148 q148
    cases e148
    replace hx148_0 := (HB.out.cell (World.block_lt_of_cell? w _ hx148_0)).trans hx148_0
    replace hx148_1 := (HB.out.cell (World.block_lt_of_cell? w _ hx148_1)).trans hx148_1
    replace hx148_2 := (HB.out.cell (World.block_lt_of_cell? w _ hx148_2)).trans hx148_2
    replace p148 := eq_true p148
    replace q148 := eq_true q148
    go_wp2_with (first | ((with_reducible refine gate_dst (N := 6) rfl ?_); refine box_event ?hg (N := 6) ?hd (cs := #[.int .i64 0, .int .i64 0, .int .i64 0]) (t := 84) ?hr ?_; (case hd => rfl); (case hg => rfl); (case hr => first | (go_simp; done) | (go_simp; rfl)); intro gb149 hg w8 hbox hb; have n0_ := Aside0.mk (below_step (by repeat (first | (with_reducible first | exact HB.out | apply below_alloc | apply pw_below_drewN | apply below_drew1) | exact HB.out)) hb); have n1_ := Aside0.mk (hbox); have n2_ := Aside0.mk ((by rw [hg]; exact (below_size (by repeat (first | (with_reducible first | exact HB.out | apply below_alloc | apply pw_below_drewN | apply below_drew1) | exact HB.out))) : w.heap.size ≤ gb149)); have n3_ := Aside0.mk ((by rw [hg]; exact (below_size (by repeat (first | (with_reducible first | exact HB.out | apply below_alloc | apply pw_below_drewN | apply below_drew1) | exact HB.out))) : w.heap.size ≤ gb149)); clear HB; have HB := n0_; have BK149 := n1_; have GW149 := n2_; have GE149 := n3_; clear n0_ n1_ n2_ n3_; clear hb hbox hg; have hcz9_0 : w8.cell? ⟨gb149, 0, none⟩ = some (.int .i64 0) := (blk_cell BK149.out 0).trans rfl; have hcz9_1 : w8.cell? ⟨gb149, 1, none⟩ = some (.int .i64 0) := (blk_cell BK149.out 1).trans rfl; have hcz9_2 : w8.cell? ⟨gb149, 2, none⟩ = some (.int .i64 0) := (blk_cell BK149.out 2).trans rfl; have hfz9_0 := blk_frozen BK149.out 0; have hfz9_1 := blk_frozen BK149.out 1; have hfz9_2 := blk_frozen BK149.out 2))
    go_ret
    exact ⟨by first | rfl | (simp [errW_none, errW_some] <;> rfl) | (simp [*, errW_none, errW_some] <;> rfl), by repeat (first | (with_reducible first | exact HB.out | apply below_alloc | apply pw_below_drewN | apply below_drew1 | refine below_set ?_ GE149.out) | exact HB.out)⟩
   rw [if_neg c7] at H
   have c7b0 : decide (a1 ≤ ((rd_T84 l0 x9_1).f1)) = false := decide_eq_false c7
   clear c7
   have H' := Aside0.mk H
   clear H
   have p148 : 0 ≤ (x9_1 : Int) := of_decide_eq_true (by first | (with_reducible assumption) | assumption)
   have q148 : x9_1 < (l0.length : Int) := of_decide_eq_true (by first | (with_reducible assumption) | assumption)
   obtain ⟨ad148, e148, hx148_0, hx148_1, hx148_2⟩ := at_T84 HR0.out x9_1 p148 q148
   cases e148
   replace hx148_0 := (HB.out.cell (World.block_lt_of_cell? w _ hx148_0)).trans hx148_0
   replace hx148_1 := (HB.out.cell (World.block_lt_of_cell? w _ hx148_1)).trans hx148_1
   replace hx148_2 := (HB.out.cell (World.block_lt_of_cell? w _ hx148_2)).trans hx148_2
   replace p148 := eq_true p148
   replace q148 := eq_true q148
   go_wp2_with (first | ((with_reducible refine gate_dst (N := 6) rfl ?_); refine box_event ?hg (N := 6) ?hd (cs := #[.int .i64 0, .int .i64 0, .int .i64 0]) (t := 84) ?hr ?_; (case hd => rfl); (case hg => rfl); (case hr => first | (go_simp; done) | (go_simp; rfl)); intro gb149 hg w10 hbox hb; have n0_ := Aside0.mk (below_step (by repeat (first | (with_reducible first | exact HB.out | apply below_alloc | apply pw_below_drewN | apply below_drew1) | exact HB.out)) hb); have n1_ := Aside0.mk (hbox); have n2_ := Aside0.mk ((by rw [hg]; exact (below_size (by repeat (first | (with_reducible first | exact HB.out | apply below_alloc | apply pw_below_drewN | apply below_drew1) | exact HB.out))) : w.heap.size ≤ gb149)); have n3_ := Aside0.mk ((by rw [hg]; exact (below_size (by repeat (first | (with_reducible first | exact HB.out | apply below_alloc | apply pw_below_drewN | apply below_drew1) | exact HB.out))) : w.heap.size ≤ gb149)); clear HB; have HB := n0_; have BK149 := n1_; have GW149 := n2_; have GE149 := n3_; clear n0_ n1_ n2_ n3_; clear hb hbox hg; have hcz11_0 : w10.cell? ⟨gb149, 0, none⟩ = some (.int .i64 0) := (blk_cell BK149.out 0).trans rfl; have hcz11_1 : w10.cell? ⟨gb149, 1, none⟩ = some (.int .i64 0) := (blk_cell BK149.out 1).trans rfl; have hcz11_2 : w10.cell? ⟨gb149, 2, none⟩ = some (.int .i64 0) := (blk_cell BK149.out 2).trans rfl; have hfz11_0 := blk_frozen BK149.out 0; have hfz11_1 := blk_frozen BK149.out 1; have hfz11_2 := blk_frozen BK149.out 2))
   go_roundg k1
   case measure => have := HK1.out; omega
   case rel => exact ⟨(wrap64 (x9_1 + 1)), (by first | rfl | (simp; done) | (simp [*]; done)), H', ⟨by have := HK1.out; omega⟩, ⟨by repeat (first | (with_reducible first | exact HB.out | apply below_alloc | apply pw_below_drewN | apply below_drew1 | refine below_set ?_ GE149.out) | exact HB.out)⟩⟩

end Go.Proofs.Ytgcdfchchphpjaa.M
