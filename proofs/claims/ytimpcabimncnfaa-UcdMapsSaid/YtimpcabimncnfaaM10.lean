-- Written by wip/prn.py of this session out of the translation (function by function); Lean checks it.
-- squeezed
import Derived.Test.YtimpcabimncnfaaM0
import Derived.Test.YtimpcabimncnfaaHRun
namespace Go.Proofs.Ytimpcabimncnfaa.M
open Go.RowKit Go.Proofs.YtimpcabimncnfaaW.PrintWords Go.Proofs.YtimpcabimncnfaaW.PrintLast Go.Proofs.YtimpcabimncnfaaW.PrintMore
attribute [local go_sem] max2_int min2_int max_two min_two max_three min_three max_four min_four   -- for this text's walks alone
set_option linter.unusedVariables false
set_option linter.unusedSimpArgs false

/-! ### api_Compat: function 25 -/
def api_Compat.lit : List (S43) := ([(⟨160, [32]⟩ : S43), (⟨168, [32, 776]⟩ : S43), (⟨170, [97]⟩ : S43), (⟨175, [32, 772]⟩ : S43), (⟨178, [50]⟩ : S43), (⟨179, [51]⟩ : S43), (⟨180, [32, 769]⟩ : S43), (⟨181, [956]⟩ : S43), (⟨184, [32, 807]⟩ : S43), (⟨185, [49]⟩ : S43), (⟨186, [111]⟩ : S43), (⟨188, [49, 8260, 52]⟩ : S43), (⟨189, [49, 8260, 50]⟩ : S43), (⟨190, [51, 8260, 52]⟩ : S43), (⟨306, [73, 74]⟩ : S43), (⟨307, [105, 106]⟩ : S43), (⟨319, [76, 183]⟩ : S43), (⟨320, [108, 183]⟩ : S43), (⟨329, [700, 110]⟩ : S43), (⟨383, [115]⟩ : S43), (⟨728, [32, 774]⟩ : S43), (⟨729, [32, 775]⟩ : S43), (⟨730, [32, 778]⟩ : S43), (⟨731, [32, 808]⟩ : S43), (⟨733, [32, 779]⟩ : S43), (⟨890, [32, 837]⟩ : S43), (⟨900, [32, 769]⟩ : S43), (⟨901, [168, 769]⟩ : S43), (⟨8194, [32]⟩ : S43), (⟨8195, [32]⟩ : S43), (⟨8209, [8208]⟩ : S43), (⟨8228, [46]⟩ : S43), (⟨8229, [46, 46]⟩ : S43), (⟨8230, [46, 46, 46]⟩ : S43), (⟨8304, [48]⟩ : S43), (⟨8482, [84, 77]⟩ : S43), (⟨8544, [73]⟩ : S43), (⟨8545, [73, 73]⟩ : S43), (⟨8548, [86]⟩ : S43), (⟨8560, [105]⟩ : S43), (⟨8561, [105, 105]⟩ : S43), (⟨8564, [118]⟩ : S43), (⟨12288, [32]⟩ : S43), (⟨64256, [102, 102]⟩ : S43), (⟨64257, [102, 105]⟩ : S43), (⟨64258, [102, 108]⟩ : S43), (⟨64259, [102, 102, 105]⟩ : S43), (⟨64261, [383, 116]⟩ : S43), (⟨64262, [115, 116]⟩ : S43), (⟨65438, [12441]⟩ : S43), (⟨65439, [12442]⟩ : S43), (⟨65398, [12459]⟩ : S43)] : List (S43))
mutual
def api_Compat.l0 : Nat → List (S43) → Int → Option ((List (S43)))
 | 0, _, _ => none
 | k + 1, x1, x2 => if x2 ≤ 65374 then (if x1.length < 4398046511104 then (api_Compat.l0 k (x1 ++ [(⟨x2, (([wrap64 (x2 - 65248)] : List Int))⟩ : S43)]) (wrap64 (x2 + 1))) else (none)) else (api_Compat.l1 k x1 9312)
def api_Compat.l1 : Nat → List (S43) → Int → Option ((List (S43)))
 | 0, _, _ => none
 | k + 1, x1, x3 => if x3 ≤ 9320 then (if x1.length < 4398046511104 then (api_Compat.l1 k (x1 ++ [(⟨x3, (([wrap64 ((wrap64 (x3 - 9312)) + 49)] : List Int))⟩ : S43)]) (wrap64 (x3 + 1))) else (none)) else (some x1)
end
def api_Compat.f (k : Nat)  : Option ((List (S43))) := api_Compat.l0 k (api_Compat.lit) 65281
theorem api_Compat.mono_l : ∀ k, (∀ y0 y1, LeO (api_Compat.l0 k y0 y1) (api_Compat.l0 (k + 1) y0 y1)) ∧ (∀ y0 y1, LeO (api_Compat.l1 k y0 y1) (api_Compat.l1 (k + 1) y0 y1))
 | 0 => ⟨fun _ _ r h => by simp [api_Compat.l0] at h, fun _ _ r h => by simp [api_Compat.l1] at h⟩
 | k + 1 => by
  obtain ⟨ih0, ih1⟩ := api_Compat.mono_l k
  refine ⟨?_, ?_⟩
  ·intro y0 y1
   unfold api_Compat.l0
   repeat' first
   | (with_reducible exact ih0 _ _)
   | (with_reducible exact ih1 _ _)
   | (with_reducible exact LeO.refl _)
   | (with_reducible exact LeO.none _)
   | (with_reducible refine LeO.ite ?_ ?_)
   | (with_reducible refine LeO.bind ?_ (fun _ => ?_))
   | exact ih0 _ _
   | exact ih1 _ _
   | exact LeO.none _
   | refine LeO.ite ?_ ?_
   | refine LeO.bind ?_ (fun _ => ?_)
  ·intro y0 y1
   unfold api_Compat.l1
   repeat' first
   | (with_reducible exact ih0 _ _)
   | (with_reducible exact ih1 _ _)
   | (with_reducible exact LeO.refl _)
   | (with_reducible exact LeO.none _)
   | (with_reducible refine LeO.ite ?_ ?_)
   | (with_reducible refine LeO.bind ?_ (fun _ => ?_))
   | exact ih0 _ _
   | exact ih1 _ _
   | exact LeO.none _
   | refine LeO.ite ?_ ?_
   | refine LeO.bind ?_ (fun _ => ?_)
theorem api_Compat.mono : ∀ k, LeO (api_Compat.f k ) (api_Compat.f (k + 1) ) := by
 intro  k
 obtain ⟨ih0, ih1⟩ := api_Compat.mono_l k
 unfold api_Compat.f
 repeat' first
   | (with_reducible exact ih0 _ _)
   | (with_reducible exact ih1 _ _)
   | (with_reducible exact LeO.refl _)
   | (with_reducible exact LeO.none _)
   | (with_reducible refine LeO.ite ?_ ?_)
   | (with_reducible refine LeO.bind ?_ (fun _ => ?_))
   | exact ih0 _ _
   | exact ih1 _ _
   | exact LeO.none _
   | refine LeO.ite ?_ ?_
   | refine LeO.bind ?_ (fun _ => ?_)
set_option maxHeartbeats 8000000 in
set_option maxRecDepth 100000 in
theorem api_Compat.calls (k : Nat)  (r : List (S43)) (w : World) (h : api_Compat.f k  = some r) :
  Calls Try.prog 25 #[] w fun e w' => ∃ v0_ : Value, e = .returned (v0_) ∧ Kd.N k43 43 w' w.heap.size (fun k_ => (w.heap.size ≤ k_)) v0_ r ∧ Below w.heap.size w w' := by
 have hu43 := Try.underlying43
 have HB := Aside0.mk (Below.refl w.heap.size w)
 have H : (api_Compat.l0 k (api_Compat.lit) 65281) = some r := h
 clear h
 obtain ⟨y208, hy208⟩ : ∃ y_ : List (S43), y_ = (api_Compat.lit) := ⟨_, rfl⟩
 replace H : (api_Compat.l0 k y208 65281) = some r := by first | (rw [hy208]; with_reducible exact H) | (have H2_ := (Option.bind_some _ _).symm.trans H; rw [hy208]; with_reducible exact H2_) | (have H2_ := (Option.bind_some _ _).symm.trans H; with_reducible exact H2_) | with_reducible exact H | (rw [hy208]; exact H) | exact H
 have Ny208 := Aside0.mk hy208
 clear hy208
 have H' := Aside0.mk H
 clear H
 go_enter Try.func25, Try.ntmps25
 refine wp_seq_run (a' := { tmps := #[.slice none 0 0, undef, undef, undef, undef, undef, undef, undef, undef, undef, undef, undef, undef, undef, undef, undef, undef, undef, undef, undef, undef, undef, undef, undef, undef, undef, undef, undef, undef, undef, undef, undef, undef, undef, undef, undef, undef, undef, undef, undef, undef, undef, undef, undef, undef, undef, undef, undef, undef, undef, undef, undef, undef, undef, undef, undef, undef, undef, undef, undef, undef, undef, undef, undef, undef, undef, undef, undef, undef, undef, undef, undef, undef, undef, undef, undef, undef, undef, undef, undef, undef, undef, undef, undef, undef, undef, undef, undef, undef, undef, undef, undef, undef, undef, undef, undef, undef, undef, undef, undef, undef, undef, undef, undef, undef, undef, undef, undef, undef, undef, undef, undef, undef, undef, undef, undef, undef, undef, undef, undef, undef, undef, undef, undef, undef, undef, undef, undef, undef, undef, undef, undef, undef, undef, undef], defers := [] }) (w' := w) (by kernel_rfl) ?_
 refine litrun_N43 (fun v_l => { tmps := #[.slice none 0 0, v_l, undef, undef, .slice (some ⟨w.heap.size + 0, 0, none⟩) 1 1, .agg #[.int .i64 160, .slice (some ⟨w.heap.size + 0, 0, none⟩) 1 1], .slice (some ⟨w.heap.size + 1, 0, none⟩) 2 2, .agg #[.int .i64 168, .slice (some ⟨w.heap.size + 1, 0, none⟩) 2 2], .slice (some ⟨w.heap.size + 2, 0, none⟩) 1 1, .agg #[.int .i64 170, .slice (some ⟨w.heap.size + 2, 0, none⟩) 1 1], .slice (some ⟨w.heap.size + 3, 0, none⟩) 2 2, .agg #[.int .i64 175, .slice (some ⟨w.heap.size + 3, 0, none⟩) 2 2], .slice (some ⟨w.heap.size + 4, 0, none⟩) 1 1, .agg #[.int .i64 178, .slice (some ⟨w.heap.size + 4, 0, none⟩) 1 1], .slice (some ⟨w.heap.size + 5, 0, none⟩) 1 1, .agg #[.int .i64 179, .slice (some ⟨w.heap.size + 5, 0, none⟩) 1 1], .slice (some ⟨w.heap.size + 6, 0, none⟩) 2 2, .agg #[.int .i64 180, .slice (some ⟨w.heap.size + 6, 0, none⟩) 2 2], .slice (some ⟨w.heap.size + 7, 0, none⟩) 1 1, .agg #[.int .i64 181, .slice (some ⟨w.heap.size + 7, 0, none⟩) 1 1], .slice (some ⟨w.heap.size + 8, 0, none⟩) 2 2, .agg #[.int .i64 184, .slice (some ⟨w.heap.size + 8, 0, none⟩) 2 2], .slice (some ⟨w.heap.size + 9, 0, none⟩) 1 1, .agg #[.int .i64 185, .slice (some ⟨w.heap.size + 9, 0, none⟩) 1 1], .slice (some ⟨w.heap.size + 10, 0, none⟩) 1 1, .agg #[.int .i64 186, .slice (some ⟨w.heap.size + 10, 0, none⟩) 1 1], .slice (some ⟨w.heap.size + 11, 0, none⟩) 3 3, .agg #[.int .i64 188, .slice (some ⟨w.heap.size + 11, 0, none⟩) 3 3], .slice (some ⟨w.heap.size + 12, 0, none⟩) 3 3, .agg #[.int .i64 189, .slice (some ⟨w.heap.size + 12, 0, none⟩) 3 3], .slice (some ⟨w.heap.size + 13, 0, none⟩) 3 3, .agg #[.int .i64 190, .slice (some ⟨w.heap.size + 13, 0, none⟩) 3 3], .slice (some ⟨w.heap.size + 14, 0, none⟩) 2 2, .agg #[.int .i64 306, .slice (some ⟨w.heap.size + 14, 0, none⟩) 2 2], .slice (some ⟨w.heap.size + 15, 0, none⟩) 2 2, .agg #[.int .i64 307, .slice (some ⟨w.heap.size + 15, 0, none⟩) 2 2], .slice (some ⟨w.heap.size + 16, 0, none⟩) 2 2, .agg #[.int .i64 319, .slice (some ⟨w.heap.size + 16, 0, none⟩) 2 2], .slice (some ⟨w.heap.size + 17, 0, none⟩) 2 2, .agg #[.int .i64 320, .slice (some ⟨w.heap.size + 17, 0, none⟩) 2 2], .slice (some ⟨w.heap.size + 18, 0, none⟩) 2 2, .agg #[.int .i64 329, .slice (some ⟨w.heap.size + 18, 0, none⟩) 2 2], .slice (some ⟨w.heap.size + 19, 0, none⟩) 1 1, .agg #[.int .i64 383, .slice (some ⟨w.heap.size + 19, 0, none⟩) 1 1], .slice (some ⟨w.heap.size + 20, 0, none⟩) 2 2, .agg #[.int .i64 728, .slice (some ⟨w.heap.size + 20, 0, none⟩) 2 2], .slice (some ⟨w.heap.size + 21, 0, none⟩) 2 2, .agg #[.int .i64 729, .slice (some ⟨w.heap.size + 21, 0, none⟩) 2 2], .slice (some ⟨w.heap.size + 22, 0, none⟩) 2 2, .agg #[.int .i64 730, .slice (some ⟨w.heap.size + 22, 0, none⟩) 2 2], .slice (some ⟨w.heap.size + 23, 0, none⟩) 2 2, .agg #[.int .i64 731, .slice (some ⟨w.heap.size + 23, 0, none⟩) 2 2], .slice (some ⟨w.heap.size + 24, 0, none⟩) 2 2, .agg #[.int .i64 733, .slice (some ⟨w.heap.size + 24, 0, none⟩) 2 2], .slice (some ⟨w.heap.size + 25, 0, none⟩) 2 2, .agg #[.int .i64 890, .slice (some ⟨w.heap.size + 25, 0, none⟩) 2 2], .slice (some ⟨w.heap.size + 26, 0, none⟩) 2 2, .agg #[.int .i64 900, .slice (some ⟨w.heap.size + 26, 0, none⟩) 2 2], .slice (some ⟨w.heap.size + 27, 0, none⟩) 2 2, .agg #[.int .i64 901, .slice (some ⟨w.heap.size + 27, 0, none⟩) 2 2], .slice (some ⟨w.heap.size + 28, 0, none⟩) 1 1, .agg #[.int .i64 8194, .slice (some ⟨w.heap.size + 28, 0, none⟩) 1 1], .slice (some ⟨w.heap.size + 29, 0, none⟩) 1 1, .agg #[.int .i64 8195, .slice (some ⟨w.heap.size + 29, 0, none⟩) 1 1], .slice (some ⟨w.heap.size + 30, 0, none⟩) 1 1, .agg #[.int .i64 8209, .slice (some ⟨w.heap.size + 30, 0, none⟩) 1 1], .slice (some ⟨w.heap.size + 31, 0, none⟩) 1 1, .agg #[.int .i64 8228, .slice (some ⟨w.heap.size + 31, 0, none⟩) 1 1], .slice (some ⟨w.heap.size + 32, 0, none⟩) 2 2, .agg #[.int .i64 8229, .slice (some ⟨w.heap.size + 32, 0, none⟩) 2 2], .slice (some ⟨w.heap.size + 33, 0, none⟩) 3 3, .agg #[.int .i64 8230, .slice (some ⟨w.heap.size + 33, 0, none⟩) 3 3], .slice (some ⟨w.heap.size + 34, 0, none⟩) 1 1, .agg #[.int .i64 8304, .slice (some ⟨w.heap.size + 34, 0, none⟩) 1 1], .slice (some ⟨w.heap.size + 35, 0, none⟩) 2 2, .agg #[.int .i64 8482, .slice (some ⟨w.heap.size + 35, 0, none⟩) 2 2], .slice (some ⟨w.heap.size + 36, 0, none⟩) 1 1, .agg #[.int .i64 8544, .slice (some ⟨w.heap.size + 36, 0, none⟩) 1 1], .slice (some ⟨w.heap.size + 37, 0, none⟩) 2 2, .agg #[.int .i64 8545, .slice (some ⟨w.heap.size + 37, 0, none⟩) 2 2], .slice (some ⟨w.heap.size + 38, 0, none⟩) 1 1, .agg #[.int .i64 8548, .slice (some ⟨w.heap.size + 38, 0, none⟩) 1 1], .slice (some ⟨w.heap.size + 39, 0, none⟩) 1 1, .agg #[.int .i64 8560, .slice (some ⟨w.heap.size + 39, 0, none⟩) 1 1], .slice (some ⟨w.heap.size + 40, 0, none⟩) 2 2, .agg #[.int .i64 8561, .slice (some ⟨w.heap.size + 40, 0, none⟩) 2 2], .slice (some ⟨w.heap.size + 41, 0, none⟩) 1 1, .agg #[.int .i64 8564, .slice (some ⟨w.heap.size + 41, 0, none⟩) 1 1], .slice (some ⟨w.heap.size + 42, 0, none⟩) 1 1, .agg #[.int .i64 12288, .slice (some ⟨w.heap.size + 42, 0, none⟩) 1 1], .slice (some ⟨w.heap.size + 43, 0, none⟩) 2 2, .agg #[.int .i64 64256, .slice (some ⟨w.heap.size + 43, 0, none⟩) 2 2], .slice (some ⟨w.heap.size + 44, 0, none⟩) 2 2, .agg #[.int .i64 64257, .slice (some ⟨w.heap.size + 44, 0, none⟩) 2 2], .slice (some ⟨w.heap.size + 45, 0, none⟩) 2 2, .agg #[.int .i64 64258, .slice (some ⟨w.heap.size + 45, 0, none⟩) 2 2], .slice (some ⟨w.heap.size + 46, 0, none⟩) 3 3, .agg #[.int .i64 64259, .slice (some ⟨w.heap.size + 46, 0, none⟩) 3 3], .slice (some ⟨w.heap.size + 47, 0, none⟩) 2 2, .agg #[.int .i64 64261, .slice (some ⟨w.heap.size + 47, 0, none⟩) 2 2], .slice (some ⟨w.heap.size + 48, 0, none⟩) 2 2, .agg #[.int .i64 64262, .slice (some ⟨w.heap.size + 48, 0, none⟩) 2 2], .slice (some ⟨w.heap.size + 49, 0, none⟩) 1 1, .agg #[.int .i64 65438, .slice (some ⟨w.heap.size + 49, 0, none⟩) 1 1], .slice (some ⟨w.heap.size + 50, 0, none⟩) 1 1, .agg #[.int .i64 65439, .slice (some ⟨w.heap.size + 50, 0, none⟩) 1 1], .slice (some ⟨w.heap.size + 51, 0, none⟩) 1 1, .agg #[.int .i64 65398, .slice (some ⟨w.heap.size + 51, 0, none⟩) 1 1], v_l, undef, undef, undef, undef, undef, undef, undef, undef, undef, undef, undef, undef, undef, undef, undef, undef, undef, undef, undef, undef, undef, undef, undef, undef, undef, undef], defers := [] }) w api_Compat.lit (by kernel_rfl) (by decide) ?_
 intro v209 w1 ho2 hb hg_ hnew_
 clear hg_ hnew_
 (first | rw [← Ny208.out] at ho2 | (simp only [Int.reduceToNat] at ho2; rw [← Ny208.out] at ho2))
 have n0_ := Aside0.mk (Kd.N_lower (Kd.N_mono (ok' := fun k_ => (w.heap.size ≤ k_)) ho2 (fun k_ hk_ => (Nat.le_trans (below_size (by repeat (first | (with_reducible first | exact HB.out | apply below_alloc | apply pw_below_drewN | apply below_drew1) | exact HB.out))) hk_))) (below_size (by repeat (first | (with_reducible first | exact HB.out | apply below_alloc | apply pw_below_drewN | apply below_drew1) | exact HB.out))))
 have n1_ := Aside0.mk (below_step (by repeat (first | (with_reducible first | exact HB.out | apply below_alloc | apply pw_below_drewN | apply below_drew1) | exact HB.out)) hb)
 clear HB
 have HO210 := n0_
 have HB := n1_
 clear n0_ n1_
 clear hb ho2
 go_wp2
 go_loopg [1, 2] k (fun kq v1 v2 w' => ∃ (x1_1 : List (S43)) (x2_1 : Int), v2 = .int .i64 x2_1 ∧ Aside0 (api_Compat.l0 kq x1_1 x2_1 = some r) ∧ Aside0 (kq ≤ k) ∧ Aside0 (Kd.N k43 43 w' w.heap.size (fun k_ => (w.heap.size ≤ k_)) v1 x1_1) ∧ Aside0 (Below w.heap.size w w'))
 case atStart => exact ⟨(y208), (65281), (by first | rfl | (simp; done) | (simp [*]; done)), H', ⟨Nat.le_refl _⟩, ⟨by (with_reducible repeat (first | apply Kd.N_alloc | apply Kd.N_drewN | apply Kd.N_drew)); exact HO210.out⟩, ⟨by repeat (first | (with_reducible first | exact HB.out | apply below_alloc | apply pw_below_drewN | apply below_drew1) | exact HB.out)⟩⟩
 case round =>
  clear H'
  try clear c2
  try clear p2
  obtain ⟨x1_1, x2_1, rfl, HA, HK1, HO_1, HB⟩ := hrel
  cases gk with
  | zero => exact absurd HA.out (by simp [api_Compat.l0])
  | succ k1 =>
   have H := HA.out
   clear HA
   simp only [api_Compat.l0] at H
   by_cases c3 : x2_1 ≤ 65374
   ·rw [if_pos c3] at H
    have c3b0 : decide (x2_1 ≤ 65374) = true := decide_eq_true c3
    clear c3
    obtain ⟨y211, hy211⟩ : ∃ y_ : List Int, y_ = (([wrap64 (x2_1 - 65248)] : List Int)) := ⟨_, rfl⟩
    replace H : (if x1_1.length < 4398046511104 then (api_Compat.l0 k1 (x1_1 ++ [(⟨x2_1, y211⟩ : S43)]) (wrap64 (x2_1 + 1))) else (none)) = some r := by first | (rw [hy211]; with_reducible exact H) | (have H2_ := (Option.bind_some _ _).symm.trans H; rw [hy211]; with_reducible exact H2_) | (have H2_ := (Option.bind_some _ _).symm.trans H; with_reducible exact H2_) | with_reducible exact H | (rw [hy211]; exact H) | exact H
    have Ny211 := Aside0.mk hy211
    clear hy211
    by_cases c4 : x1_1.length < 4398046511104
    rotate_left
    ·rw [if_neg c4] at H
     exact absurd H (by simp)
    rw [if_pos c4] at H
    have LMc4 := Aside0.mk c4
    clear c4
    obtain ⟨y214, hy214⟩ : ∃ y_ : List (S43), y_ = (x1_1 ++ [(⟨x2_1, y211⟩ : S43)]) := ⟨_, rfl⟩
    replace H : (api_Compat.l0 k1 y214 (wrap64 (x2_1 + 1))) = some r := by first | (rw [hy214]; with_reducible exact H) | (have H2_ := (Option.bind_some _ _).symm.trans H; rw [hy214]; with_reducible exact H2_) | (have H2_ := (Option.bind_some _ _).symm.trans H; with_reducible exact H2_) | with_reducible exact H | (rw [hy214]; exact H) | exact H
    have Ny214 := Aside0.mk hy214
    clear hy214
    have H' := Aside0.mk H
    clear H
    go_wp2_with (first | ((with_reducible refine gate_dst (N := 117) rfl ?_); refine Kd.R_lit (Kd.int .i64) _ 3 ?hg (N := 117) ?hd (xs := ([wrap64 (x2_1 - 65248)] : List Int)) (inner := [.int .i64 (wrap64 (x2_1 - 65248))]) (ok := fun _ => True) (okp := fun _ => True) ?hr ?hp (fun _ hk => hk) trivial (Below.refl _ _) (Nat.le_refl _) (by simp) ?_; (case hd => rfl); (case hg => rfl); (case hr => first | (go_simp; done) | (go_simp; rfl)); (case hp => exact (Reps.one (show Kd.M (Kd.int .i64) _ _ _ (wrap64 (x2_1 - 65248)) [.int .i64 (wrap64 (x2_1 - 65248))] from rfl) (Reps.none _ _))); intro v212 w5 ho6 hb hg_ hnew_; clear hg_ hnew_; (first | rw [← Ny211.out] at ho6 | (simp only [Int.reduceToNat] at ho6; rw [← Ny211.out] at ho6)); have n0_ := Aside0.mk (Kd.N_elder' (by (with_reducible repeat (first | apply Kd.N_alloc | apply Kd.N_drewN | apply Kd.N_drew)); exact HO_1.out) (Kd.R_base ho6) hb); have n1_ := Aside0.mk (Kd.R_lower (Kd.R_newM (M := fun k_ => (w.heap.size ≤ k_)) ho6 (below_size (by repeat (first | (with_reducible first | exact HB.out | apply below_alloc | apply pw_below_drewN | apply below_drew1) | exact HB.out))) (fun k_ h_ => h_)) (below_size (by repeat (first | (with_reducible first | exact HB.out | apply below_alloc | apply pw_below_drewN | apply below_drew1) | exact HB.out)))); have n2_ := Aside0.mk (below_step (by repeat (first | (with_reducible first | exact HB.out | apply below_alloc | apply pw_below_drewN | apply below_drew1) | exact HB.out)) hb); clear HO_1; clear HB; have HO_1 := n0_; have HO213 := n1_; have HB := n2_; clear n0_ n1_ n2_; clear hb ho6; obtain ⟨Ao7, co7, eo7⟩ := Kd.R_slice HO213.out; subst eo7) | ((with_reducible refine gate_builtin (b := .append) (xs := #[.tmp 113, .tmp 119]) rfl ?_); at_builtin; refine Kd.N_append k43 (w0 := w) w.heap.size rfl (.tmp 113) (.tmp 119) 39 43 (.agg #[(.int .i64 0), (.slice none 0 0)]) 32 rfl Try.underlying39 info43 rfl (by decide) (by omega) u1 x1_1 (⟨x2_1, y211⟩ : S43) [.int .i64 x2_1, .slice Ao7 y211.length co7] (fun k_ => (w.heap.size ≤ k_)) (fun k_ => ((fun k_ => (w.heap.size ≤ k_))) k_ ∧ some k_ ≠ (u1 : Value).ownBlock) rfl rfl ?aP (fun _ hk => hk) ?aF ?aO ?aB ?aS ?aL ?_; (case aP => exact (k43_mkF _ _ (⟨x2_1, y211⟩ : S43) (Kd.R_reads' (Kd.R_mono (ok' := (fun k_ => ((fun k_ => (w.heap.size ≤ k_))) k_ ∧ some k_ ≠ (u1 : Value).ownBlock)) (Kd.R_apart' (HO213.out) (Kd.N_typed HO_1.out) (by decide)) (fun k_ hk => ⟨hk.1.1, hk.2⟩))).2.1 (Kd.R_F (Kd.R_mono (ok' := (fun k_ => ((fun k_ => (w.heap.size ≤ k_))) k_ ∧ some k_ ≠ (u1 : Value).ownBlock)) (Kd.R_apart' (HO213.out) (Kd.N_typed HO_1.out) (by decide)) (fun k_ hk => ⟨hk.1.1, hk.2⟩))))); (case aB => exact (by repeat (first | (with_reducible first | exact HB.out | apply below_alloc | apply pw_below_drewN | apply below_drew1) | exact HB.out))); (case aF => exact (fun k_ hk => (Nat.le_trans (below_size (by repeat (first | (with_reducible first | exact HB.out | apply below_alloc | apply pw_below_drewN | apply below_drew1) | exact HB.out))) hk))); (case aO => exact (by (with_reducible repeat (first | apply Kd.N_alloc | apply Kd.N_drewN | apply Kd.N_drew)); exact Kd.N_mono HO_1.out (fun _ hk => hk.1))); (case aS => exact (below_size (by repeat (first | (with_reducible first | exact HB.out | apply below_alloc | apply pw_below_drewN | apply below_drew1) | exact HB.out)))); (case aL => have := LMc4.out; omega); intro v215 w8 ho hb hg hat; rw [← Ny214.out] at ho; have n0_ := Aside0.mk (hb); have n1_ := Aside0.mk (ho); clear HB; clear HO_1; clear HO213; have HB := n0_; have HO216 := n1_; clear n0_ n1_; clear ho hb hg hat))
    go_roundg k1
    case measure => have := HK1.out; omega
    case rel => exact ⟨(y214), (wrap64 (x2_1 + 1)), (by first | rfl | (simp; done) | (simp [*]; done)), H', ⟨by have := HK1.out; omega⟩, ⟨by (with_reducible repeat (first | apply Kd.N_alloc | apply Kd.N_drewN | apply Kd.N_drew)); exact HO216.out⟩, ⟨by repeat (first | (with_reducible first | exact HB.out | apply below_alloc | apply pw_below_drewN | apply below_drew1) | exact HB.out)⟩⟩
   rw [if_neg c3] at H
   have c3b0 : decide (x2_1 ≤ 65374) = false := decide_eq_false c3
   clear c3
   have H' := Aside0.mk H
   clear H
   go_wp2
   go_loopg [1, 3] k1 (fun kq v1 v3 w' => ∃ (x1_2 : List (S43)) (x3_2 : Int), v3 = .int .i64 x3_2 ∧ Aside0 (api_Compat.l1 kq x1_2 x3_2 = some r) ∧ Aside0 (kq ≤ k1) ∧ Aside0 (Kd.N k43 43 w' w.heap.size (fun k_ => (w.heap.size ≤ k_)) v1 x1_2) ∧ Aside0 (Below w.heap.size w w'))
   case atStart => exact ⟨(x1_1), (9312), (by first | rfl | (simp; done) | (simp [*]; done)), H', ⟨Nat.le_refl _⟩, ⟨by (with_reducible repeat (first | apply Kd.N_alloc | apply Kd.N_drewN | apply Kd.N_drew)); exact HO_1.out⟩, ⟨by repeat (first | (with_reducible first | exact HB.out | apply below_alloc | apply pw_below_drewN | apply below_drew1) | exact HB.out)⟩⟩
   case round =>
    clear H'
    try clear c2
    try clear p2
    try clear c3
    try clear c3b0
    try clear c4
    try clear p6
    try clear p2
    obtain ⟨x1_2, x3_2, rfl, HA, HK2, HO_1, HB⟩ := hrel
    cases gk with
    | zero => exact absurd HA.out (by simp [api_Compat.l1])
    | succ k2 =>
     have H := HA.out
     clear HA
     simp only [api_Compat.l1] at H
     by_cases c9 : x3_2 ≤ 9320
     rotate_left
     ·rw [if_neg c9] at H
      have c9b0 : decide (x3_2 ≤ 9320) = false := decide_eq_false c9
      clear c9
      obtain rfl := Option.some.inj H
      go_wp2
      go_ret
      exact ⟨_, by first | rfl | (simp [errW_none, errW_some] <;> rfl) | (simp [*, errW_none, errW_some] <;> rfl), by (with_reducible repeat (first | apply Kd.N_alloc | apply Kd.N_drewN | apply Kd.N_drew)); exact HO_1.out, by repeat (first | (with_reducible first | exact HB.out | apply below_alloc | apply pw_below_drewN | apply below_drew1) | exact HB.out)⟩
     rw [if_pos c9] at H
     have c9b0 : decide (x3_2 ≤ 9320) = true := decide_eq_true c9
     clear c9
     obtain ⟨y217, hy217⟩ : ∃ y_ : List Int, y_ = (([wrap64 ((wrap64 (x3_2 - 9312)) + 49)] : List Int)) := ⟨_, rfl⟩
     replace H : (if x1_2.length < 4398046511104 then (api_Compat.l1 k2 (x1_2 ++ [(⟨x3_2, y217⟩ : S43)]) (wrap64 (x3_2 + 1))) else (none)) = some r := by first | (rw [hy217]; with_reducible exact H) | (have H2_ := (Option.bind_some _ _).symm.trans H; rw [hy217]; with_reducible exact H2_) | (have H2_ := (Option.bind_some _ _).symm.trans H; with_reducible exact H2_) | with_reducible exact H | (rw [hy217]; exact H) | exact H
     have Ny217 := Aside0.mk hy217
     clear hy217
     by_cases c10 : x1_2.length < 4398046511104
     rotate_left
     ·rw [if_neg c10] at H
      exact absurd H (by simp)
     rw [if_pos c10] at H
     have LMc10 := Aside0.mk c10
     clear c10
     obtain ⟨y220, hy220⟩ : ∃ y_ : List (S43), y_ = (x1_2 ++ [(⟨x3_2, y217⟩ : S43)]) := ⟨_, rfl⟩
     replace H : (api_Compat.l1 k2 y220 (wrap64 (x3_2 + 1))) = some r := by first | (rw [hy220]; with_reducible exact H) | (have H2_ := (Option.bind_some _ _).symm.trans H; rw [hy220]; with_reducible exact H2_) | (have H2_ := (Option.bind_some _ _).symm.trans H; with_reducible exact H2_) | with_reducible exact H | (rw [hy220]; exact H) | exact H
     have Ny220 := Aside0.mk hy220
     clear hy220
     have H' := Aside0.mk H
     clear H
     go_wp2_with (first | ((with_reducible refine gate_dst (N := 130) rfl ?_); refine Kd.R_lit (Kd.int .i64) _ 3 ?hg (N := 130) ?hd (xs := ([wrap64 ((wrap64 (x3_2 - 9312)) + 49)] : List Int)) (inner := [.int .i64 (wrap64 ((wrap64 (x3_2 - 9312)) + 49))]) (ok := fun _ => True) (okp := fun _ => True) ?hr ?hp (fun _ hk => hk) trivial (Below.refl _ _) (Nat.le_refl _) (by simp) ?_; (case hd => rfl); (case hg => rfl); (case hr => first | (go_simp; done) | (go_simp; rfl)); (case hp => exact (Reps.one (show Kd.M (Kd.int .i64) _ _ _ (wrap64 ((wrap64 (x3_2 - 9312)) + 49)) [.int .i64 (wrap64 ((wrap64 (x3_2 - 9312)) + 49))] from rfl) (Reps.none _ _))); intro v218 w11 ho12 hb hg_ hnew_; clear hg_ hnew_; (first | rw [← Ny217.out] at ho12 | (simp only [Int.reduceToNat] at ho12; rw [← Ny217.out] at ho12)); have n0_ := Aside0.mk (Kd.N_elder' (by (with_reducible repeat (first | apply Kd.N_alloc | apply Kd.N_drewN | apply Kd.N_drew)); exact HO_1.out) (Kd.R_base ho12) hb); have n1_ := Aside0.mk (Kd.R_lower (Kd.R_newM (M := fun k_ => (w.heap.size ≤ k_)) ho12 (below_size (by repeat (first | (with_reducible first | exact HB.out | apply below_alloc | apply pw_below_drewN | apply below_drew1) | exact HB.out))) (fun k_ h_ => h_)) (below_size (by repeat (first | (with_reducible first | exact HB.out | apply below_alloc | apply pw_below_drewN | apply below_drew1) | exact HB.out)))); have n2_ := Aside0.mk (below_step (by repeat (first | (with_reducible first | exact HB.out | apply below_alloc | apply pw_below_drewN | apply below_drew1) | exact HB.out)) hb); clear HO_1; clear HB; have HO_1 := n0_; have HO219 := n1_; have HB := n2_; clear n0_ n1_ n2_; clear hb ho12; obtain ⟨Ao13, co13, eo13⟩ := Kd.R_slice HO219.out; subst eo13) | ((with_reducible refine gate_builtin (b := .append) (xs := #[.tmp 125, .tmp 132]) rfl ?_); at_builtin; refine Kd.N_append k43 (w0 := w) w.heap.size rfl (.tmp 125) (.tmp 132) 39 43 (.agg #[(.int .i64 0), (.slice none 0 0)]) 32 rfl Try.underlying39 info43 rfl (by decide) (by omega) u1 x1_2 (⟨x3_2, y217⟩ : S43) [.int .i64 x3_2, .slice Ao13 y217.length co13] (fun k_ => (w.heap.size ≤ k_)) (fun k_ => ((fun k_ => (w.heap.size ≤ k_))) k_ ∧ some k_ ≠ (u1 : Value).ownBlock) rfl rfl ?aP (fun _ hk => hk) ?aF ?aO ?aB ?aS ?aL ?_; (case aP => exact (k43_mkF _ _ (⟨x3_2, y217⟩ : S43) (Kd.R_reads' (Kd.R_mono (ok' := (fun k_ => ((fun k_ => (w.heap.size ≤ k_))) k_ ∧ some k_ ≠ (u1 : Value).ownBlock)) (Kd.R_apart' (HO219.out) (Kd.N_typed HO_1.out) (by decide)) (fun k_ hk => ⟨hk.1.1, hk.2⟩))).2.1 (Kd.R_F (Kd.R_mono (ok' := (fun k_ => ((fun k_ => (w.heap.size ≤ k_))) k_ ∧ some k_ ≠ (u1 : Value).ownBlock)) (Kd.R_apart' (HO219.out) (Kd.N_typed HO_1.out) (by decide)) (fun k_ hk => ⟨hk.1.1, hk.2⟩))))); (case aB => exact (by repeat (first | (with_reducible first | exact HB.out | apply below_alloc | apply pw_below_drewN | apply below_drew1) | exact HB.out))); (case aF => exact (fun k_ hk => (Nat.le_trans (below_size (by repeat (first | (with_reducible first | exact HB.out | apply below_alloc | apply pw_below_drewN | apply below_drew1) | exact HB.out))) hk))); (case aO => exact (by (with_reducible repeat (first | apply Kd.N_alloc | apply Kd.N_drewN | apply Kd.N_drew)); exact Kd.N_mono HO_1.out (fun _ hk => hk.1))); (case aS => exact (below_size (by repeat (first | (with_reducible first | exact HB.out | apply below_alloc | apply pw_below_drewN | apply below_drew1) | exact HB.out)))); (case aL => have := LMc10.out; omega); intro v221 w14 ho hb hg hat; rw [← Ny220.out] at ho; have n0_ := Aside0.mk (hb); have n1_ := Aside0.mk (ho); clear HB; clear HO_1; clear HO219; have HB := n0_; have HO222 := n1_; clear n0_ n1_; clear ho hb hg hat))
     go_roundg k2
     case measure => have := HK1.out; have := HK2.out; omega
     case rel => exact ⟨(y220), (wrap64 (x3_2 + 1)), (by first | rfl | (simp; done) | (simp [*]; done)), H', ⟨by have := HK1.out; have := HK2.out; omega⟩, ⟨by (with_reducible repeat (first | apply Kd.N_alloc | apply Kd.N_drewN | apply Kd.N_drew)); exact HO222.out⟩, ⟨by repeat (first | (with_reducible first | exact HB.out | apply below_alloc | apply pw_below_drewN | apply below_drew1) | exact HB.out)⟩⟩

end Go.Proofs.Ytimpcabimncnfaa.M
