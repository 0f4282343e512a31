-- Written by wip/prn.py of this session out of the translation (function by function); Lean checks it.
-- squeezed
import Derived.Test.YtgcdfchchphpjaaM0
import Derived.Test.YtgcdfchchphpjaaM11
import Derived.Test.YtgcdfchchphpjaaHPut
import Derived.Test.YtgcdfchchphpjaaHWakes18
namespace Go.Proofs.Ytgcdfchchphpjaa.M
open Go.RowKit Go.Proofs.YtgcdfchchphpjaaW.PrintWords Go.Proofs.YtgcdfchchphpjaaW.PrintLast Go.Proofs.YtgcdfchchphpjaaW.PrintMore
attribute [local go_sem] max2_int min2_int max_two min_two max_three min_three max_four min_four   -- for this text's walks alone
set_option linter.unusedVariables false
set_option linter.unusedSimpArgs false

/-! ### sobriquetlaw18_TeletexPlain: function 8 -/
mutual
def sobriquetlaw18_TeletexPlain.l0 : Nat → List Int → List Int → List Int → Int → Option (Bool)
 | 0, _, _, _, _ => none
 | k + 1, x0, x3, x4, x5 => if x5 < (x0.length : Int) then (if 0 ≤ x5 then (if (wrap64 (32 + (wrap64 (Int.tmod (IntKind.u64.wrap (rd x0 x5)) 91)))) ≥ 33 then (if (wrap64 (32 + (wrap64 (Int.tmod (IntKind.u64.wrap (rd x0 x5)) 91)))) ≤ 47 then (if x3.length < 17592186044416 then (if x4.length < 140737488355328 then (sobriquetlaw18_TeletexPlain.l0 k x0 (x3 ++ [97]) (x4 ++ [97]) (wrap64 (x5 + 1))) else (none)) else (none)) else (if (wrap64 (32 + (wrap64 (Int.tmod (IntKind.u64.wrap (rd x0 x5)) 91)))) ≥ 58 then (if (wrap64 (32 + (wrap64 (Int.tmod (IntKind.u64.wrap (rd x0 x5)) 91)))) ≤ 64 then (if x3.length < 17592186044416 then (if x4.length < 140737488355328 then (sobriquetlaw18_TeletexPlain.l0 k x0 (x3 ++ [97]) (x4 ++ [97]) (wrap64 (x5 + 1))) else (none)) else (none)) else (if (wrap64 (32 + (wrap64 (Int.tmod (IntKind.u64.wrap (rd x0 x5)) 91)))) = 92 then (if x3.length < 17592186044416 then (if x4.length < 140737488355328 then (sobriquetlaw18_TeletexPlain.l0 k x0 (x3 ++ [97]) (x4 ++ [97]) (wrap64 (x5 + 1))) else (none)) else (none)) else (if (wrap64 (32 + (wrap64 (Int.tmod (IntKind.u64.wrap (rd x0 x5)) 91)))) = 94 then (if x3.length < 17592186044416 then (if x4.length < 140737488355328 then (sobriquetlaw18_TeletexPlain.l0 k x0 (x3 ++ [97]) (x4 ++ [97]) (wrap64 (x5 + 1))) else (none)) else (none)) else (if (wrap64 (32 + (wrap64 (Int.tmod (IntKind.u64.wrap (rd x0 x5)) 91)))) = 96 then (if x3.length < 17592186044416 then (if x4.length < 140737488355328 then (sobriquetlaw18_TeletexPlain.l0 k x0 (x3 ++ [97]) (x4 ++ [97]) (wrap64 (x5 + 1))) else (none)) else (none)) else (if (wrap64 (32 + (wrap64 (Int.tmod (IntKind.u64.wrap (rd x0 x5)) 91)))) > 122 then (if x3.length < 17592186044416 then (if x4.length < 140737488355328 then (sobriquetlaw18_TeletexPlain.l0 k x0 (x3 ++ [97]) (x4 ++ [97]) (wrap64 (x5 + 1))) else (none)) else (none)) else (if x3.length < 17592186044416 then (if x4.length < 140737488355328 then (sobriquetlaw18_TeletexPlain.l0 k x0 (x3 ++ [wrap64 (32 + (wrap64 (Int.tmod (IntKind.u64.wrap (rd x0 x5)) 91)))]) (x4 ++ [(wrap64 (32 + (wrap64 (Int.tmod (IntKind.u64.wrap (rd x0 x5)) 91)))) % 256]) (wrap64 (x5 + 1))) else (none)) else (none))))))) else (if (wrap64 (32 + (wrap64 (Int.tmod (IntKind.u64.wrap (rd x0 x5)) 91)))) = 92 then (if x3.length < 17592186044416 then (if x4.length < 140737488355328 then (sobriquetlaw18_TeletexPlain.l0 k x0 (x3 ++ [97]) (x4 ++ [97]) (wrap64 (x5 + 1))) else (none)) else (none)) else (if (wrap64 (32 + (wrap64 (Int.tmod (IntKind.u64.wrap (rd x0 x5)) 91)))) = 94 then (if x3.length < 17592186044416 then (if x4.length < 140737488355328 then (sobriquetlaw18_TeletexPlain.l0 k x0 (x3 ++ [97]) (x4 ++ [97]) (wrap64 (x5 + 1))) else (none)) else (none)) else (if (wrap64 (32 + (wrap64 (Int.tmod (IntKind.u64.wrap (rd x0 x5)) 91)))) = 96 then (if x3.length < 17592186044416 then (if x4.length < 140737488355328 then (sobriquetlaw18_TeletexPlain.l0 k x0 (x3 ++ [97]) (x4 ++ [97]) (wrap64 (x5 + 1))) else (none)) else (none)) else (if (wrap64 (32 + (wrap64 (Int.tmod (IntKind.u64.wrap (rd x0 x5)) 91)))) > 122 then (if x3.length < 17592186044416 then (if x4.length < 140737488355328 then (sobriquetlaw18_TeletexPlain.l0 k x0 (x3 ++ [97]) (x4 ++ [97]) (wrap64 (x5 + 1))) else (none)) else (none)) else (if x3.length < 17592186044416 then (if x4.length < 140737488355328 then (sobriquetlaw18_TeletexPlain.l0 k x0 (x3 ++ [wrap64 (32 + (wrap64 (Int.tmod (IntKind.u64.wrap (rd x0 x5)) 91)))]) (x4 ++ [(wrap64 (32 + (wrap64 (Int.tmod (IntKind.u64.wrap (rd x0 x5)) 91)))) % 256]) (wrap64 (x5 + 1))) else (none)) else (none)))))))) else (if (wrap64 (32 + (wrap64 (Int.tmod (IntKind.u64.wrap (rd x0 x5)) 91)))) ≥ 58 then (if (wrap64 (32 + (wrap64 (Int.tmod (IntKind.u64.wrap (rd x0 x5)) 91)))) ≤ 64 then (if x3.length < 17592186044416 then (if x4.length < 140737488355328 then (sobriquetlaw18_TeletexPlain.l0 k x0 (x3 ++ [97]) (x4 ++ [97]) (wrap64 (x5 + 1))) else (none)) else (none)) else (if (wrap64 (32 + (wrap64 (Int.tmod (IntKind.u64.wrap (rd x0 x5)) 91)))) = 92 then (if x3.length < 17592186044416 then (if x4.length < 140737488355328 then (sobriquetlaw18_TeletexPlain.l0 k x0 (x3 ++ [97]) (x4 ++ [97]) (wrap64 (x5 + 1))) else (none)) else (none)) else (if (wrap64 (32 + (wrap64 (Int.tmod (IntKind.u64.wrap (rd x0 x5)) 91)))) = 94 then (if x3.length < 17592186044416 then (if x4.length < 140737488355328 then (sobriquetlaw18_TeletexPlain.l0 k x0 (x3 ++ [97]) (x4 ++ [97]) (wrap64 (x5 + 1))) else (none)) else (none)) else (if (wrap64 (32 + (wrap64 (Int.tmod (IntKind.u64.wrap (rd x0 x5)) 91)))) = 96 then (if x3.length < 17592186044416 then (if x4.length < 140737488355328 then (sobriquetlaw18_TeletexPlain.l0 k x0 (x3 ++ [97]) (x4 ++ [97]) (wrap64 (x5 + 1))) else (none)) else (none)) else (if (wrap64 (32 + (wrap64 (Int.tmod (IntKind.u64.wrap (rd x0 x5)) 91)))) > 122 then (if x3.length < 17592186044416 then (if x4.length < 140737488355328 then (sobriquetlaw18_TeletexPlain.l0 k x0 (x3 ++ [97]) (x4 ++ [97]) (wrap64 (x5 + 1))) else (none)) else (none)) else (if x3.length < 17592186044416 then (if x4.length < 140737488355328 then (sobriquetlaw18_TeletexPlain.l0 k x0 (x3 ++ [wrap64 (32 + (wrap64 (Int.tmod (IntKind.u64.wrap (rd x0 x5)) 91)))]) (x4 ++ [(wrap64 (32 + (wrap64 (Int.tmod (IntKind.u64.wrap (rd x0 x5)) 91)))) % 256]) (wrap64 (x5 + 1))) else (none)) else (none))))))) else (if (wrap64 (32 + (wrap64 (Int.tmod (IntKind.u64.wrap (rd x0 x5)) 91)))) = 92 then (if x3.length < 17592186044416 then (if x4.length < 140737488355328 then (sobriquetlaw18_TeletexPlain.l0 k x0 (x3 ++ [97]) (x4 ++ [97]) (wrap64 (x5 + 1))) else (none)) else (none)) else (if (wrap64 (32 + (wrap64 (Int.tmod (IntKind.u64.wrap (rd x0 x5)) 91)))) = 94 then (if x3.length < 17592186044416 then (if x4.length < 140737488355328 then (sobriquetlaw18_TeletexPlain.l0 k x0 (x3 ++ [97]) (x4 ++ [97]) (wrap64 (x5 + 1))) else (none)) else (none)) else (if (wrap64 (32 + (wrap64 (Int.tmod (IntKind.u64.wrap (rd x0 x5)) 91)))) = 96 then (if x3.length < 17592186044416 then (if x4.length < 140737488355328 then (sobriquetlaw18_TeletexPlain.l0 k x0 (x3 ++ [97]) (x4 ++ [97]) (wrap64 (x5 + 1))) else (none)) else (none)) else (if (wrap64 (32 + (wrap64 (Int.tmod (IntKind.u64.wrap (rd x0 x5)) 91)))) > 122 then (if x3.length < 17592186044416 then (if x4.length < 140737488355328 then (sobriquetlaw18_TeletexPlain.l0 k x0 (x3 ++ [97]) (x4 ++ [97]) (wrap64 (x5 + 1))) else (none)) else (none)) else (if x3.length < 17592186044416 then (if x4.length < 140737488355328 then (sobriquetlaw18_TeletexPlain.l0 k x0 (x3 ++ [wrap64 (32 + (wrap64 (Int.tmod (IntKind.u64.wrap (rd x0 x5)) 91)))]) (x4 ++ [(wrap64 (32 + (wrap64 (Int.tmod (IntKind.u64.wrap (rd x0 x5)) 91)))) % 256]) (wrap64 (x5 + 1))) else (none)) else (none)))))))) else (none)) else ((teletex_Put.f x3).bind fun bt703 => (sobriquetlaw18_TeletexPlain.l1 k x4 bt703.1 bt703.2.2 0))
def sobriquetlaw18_TeletexPlain.l1 : Nat → List Int → List Int → Int → Int → Option (Bool)
 | 0, _, _, _, _ => none
 | k + 1, x4, x7, x9, x10 => if x10 < 128 then ((teletex_Has.f x10).bind fun t708 => (if x10 ≥ 32 then (if x10 < 127 then (if (t708 != true) = true then (some false) else (sobriquetlaw18_TeletexPlain.l1 k x4 x7 x9 (wrap64 (x10 + 1)))) else (if x10 = 8 then (if (t708 != true) = true then (some false) else (sobriquetlaw18_TeletexPlain.l1 k x4 x7 x9 (wrap64 (x10 + 1)))) else (if x10 = 10 then (if (t708 != true) = true then (some false) else (sobriquetlaw18_TeletexPlain.l1 k x4 x7 x9 (wrap64 (x10 + 1)))) else (if x10 = 12 then (if (t708 != true) = true then (some false) else (sobriquetlaw18_TeletexPlain.l1 k x4 x7 x9 (wrap64 (x10 + 1)))) else (if (t708 != (x10 == 13)) = true then (some false) else (sobriquetlaw18_TeletexPlain.l1 k x4 x7 x9 (wrap64 (x10 + 1)))))))) else (if x10 = 8 then (if (t708 != true) = true then (some false) else (sobriquetlaw18_TeletexPlain.l1 k x4 x7 x9 (wrap64 (x10 + 1)))) else (if x10 = 10 then (if (t708 != true) = true then (some false) else (sobriquetlaw18_TeletexPlain.l1 k x4 x7 x9 (wrap64 (x10 + 1)))) else (if x10 = 12 then (if (t708 != true) = true then (some false) else (sobriquetlaw18_TeletexPlain.l1 k x4 x7 x9 (wrap64 (x10 + 1)))) else (if (t708 != (x10 == 13)) = true then (some false) else (sobriquetlaw18_TeletexPlain.l1 k x4 x7 x9 (wrap64 (x10 + 1))))))))) else (if x9 = 0 then ((sobriquetkeep_Bytes.f k x7 x4).bind fun t709 => (if t709 = true then ((sobriquetlaw18_wakes.f).bind fun t710 => (some t710)) else (some false))) else (some false))
end
def sobriquetlaw18_TeletexPlain.f (k : Nat) (l0 : List Int) : Option (Bool) := if (l0.length : Int) > 100 then (some true) else (sobriquetlaw18_TeletexPlain.l0 k l0 ([] : List Int) ([] : List Int) 0)
theorem sobriquetlaw18_TeletexPlain.mono_l : ∀ k, (∀ y0 y1 y2 y3, LeO (sobriquetlaw18_TeletexPlain.l0 k y0 y1 y2 y3) (sobriquetlaw18_TeletexPlain.l0 (k + 1) y0 y1 y2 y3)) ∧ (∀ y0 y1 y2 y3, LeO (sobriquetlaw18_TeletexPlain.l1 k y0 y1 y2 y3) (sobriquetlaw18_TeletexPlain.l1 (k + 1) y0 y1 y2 y3))
 | 0 => ⟨fun _ _ _ _ r h => by simp [sobriquetlaw18_TeletexPlain.l0] at h, fun _ _ _ _ r h => by simp [sobriquetlaw18_TeletexPlain.l1] at h⟩
 | k + 1 => by
  obtain ⟨ih0, ih1⟩ := sobriquetlaw18_TeletexPlain.mono_l k
  refine ⟨?_, ?_⟩
  ·intro y0 y1 y2 y3
   unfold sobriquetlaw18_TeletexPlain.l0
   repeat' first
   | (with_reducible exact ih0 _ _ _ _)
   | (with_reducible exact ih1 _ _ _ _)
   | (with_reducible exact sobriquetkeep_Bytes.mono _ _ _)
   | (with_reducible exact LeO.refl _)
   | (with_reducible exact LeO.none _)
   | (with_reducible refine LeO.ite ?_ ?_)
   | (with_reducible refine LeO.bind ?_ (fun _ => ?_))
   | exact ih0 _ _ _ _
   | exact ih1 _ _ _ _
   | exact sobriquetkeep_Bytes.mono _ _ _
   | exact LeO.none _
   | refine LeO.ite ?_ ?_
   | refine LeO.bind ?_ (fun _ => ?_)
  ·intro y0 y1 y2 y3
   unfold sobriquetlaw18_TeletexPlain.l1
   repeat' first
   | (with_reducible exact ih0 _ _ _ _)
   | (with_reducible exact ih1 _ _ _ _)
   | (with_reducible exact sobriquetkeep_Bytes.mono _ _ _)
   | (with_reducible exact LeO.refl _)
   | (with_reducible exact LeO.none _)
   | (with_reducible refine LeO.ite ?_ ?_)
   | (with_reducible refine LeO.bind ?_ (fun _ => ?_))
   | exact ih0 _ _ _ _
   | exact ih1 _ _ _ _
   | exact sobriquetkeep_Bytes.mono _ _ _
   | exact LeO.none _
   | refine LeO.ite ?_ ?_
   | refine LeO.bind ?_ (fun _ => ?_)
theorem sobriquetlaw18_TeletexPlain.mono : ∀ a0 k, LeO (sobriquetlaw18_TeletexPlain.f k a0) (sobriquetlaw18_TeletexPlain.f (k + 1) a0) := by
 intro a0 k
 obtain ⟨ih0, ih1⟩ := sobriquetlaw18_TeletexPlain.mono_l k
 unfold sobriquetlaw18_TeletexPlain.f
 repeat' first
   | (with_reducible exact ih0 _ _ _ _)
   | (with_reducible exact ih1 _ _ _ _)
   | (with_reducible exact sobriquetkeep_Bytes.mono _ _ _)
   | (with_reducible exact LeO.refl _)
   | (with_reducible exact LeO.none _)
   | (with_reducible refine LeO.ite ?_ ?_)
   | (with_reducible refine LeO.bind ?_ (fun _ => ?_))
   | exact ih0 _ _ _ _
   | exact ih1 _ _ _ _
   | exact sobriquetkeep_Bytes.mono _ _ _
   | exact LeO.none _
   | refine LeO.ite ?_ ?_
   | refine LeO.bind ?_ (fun _ => ?_)
set_option maxHeartbeats 8000000 in
set_option maxRecDepth 100000 in
theorem sobriquetlaw18_TeletexPlain.calls (k : Nat) (A0 : Option Addr) (c0 : Nat) (l0 : List Int) (r : Bool) (w : World) (hr0 : Kd.C (Kd.int .i64) w A0 l0.length l0) (hc0 : l0.length ≤ c0) (h : sobriquetlaw18_TeletexPlain.f k l0 = some r) :
  Calls Try.prog 8 #[.slice A0 l0.length c0] w fun e w' => e = .returned (.bool r) ∧ Below w.heap.size w w' := by
 have HR0 := Aside0.mk hr0
 have HC0 := Aside0.mk hc0
 clear hr0 hc0
 have HB := Aside0.mk (Below.refl w.heap.size w)
 have H : (if (l0.length : Int) > 100 then (some true) else (sobriquetlaw18_TeletexPlain.l0 k l0 ([] : List Int) ([] : List Int) 0)) = some r := h
 clear h
 by_cases c2 : (l0.length : Int) > 100
 ·rw [if_pos c2] at H
  have c2b0 : decide (100 < (l0.length : Int)) = true := decide_eq_true c2
  have c2b1 : decide (100 < l0.length) = true := decide_eq_true (by omega)
  clear c2
  obtain rfl := Option.some.inj H
  go_enter Try.func8, Try.ntmps8
  go_wp2
  go_ret
  exact ⟨by first | rfl | (simp [errW_none, errW_some] <;> rfl) | (simp [*, errW_none, errW_some] <;> rfl), by repeat (first | (with_reducible first | exact HB.out | apply below_alloc | apply pw_below_drewN | apply below_drew1) | exact HB.out)⟩
 rw [if_neg c2] at H
 have c2b0 : decide (100 < (l0.length : Int)) = false := decide_eq_false c2
 have c2b1 : decide (100 < l0.length) = false := decide_eq_false (by omega)
 clear c2
 have H' := Aside0.mk H
 clear H
 go_enter Try.func8, Try.ntmps8
 go_wp2
 go_loopg [3, 4, 5] k (fun kq v3 v4 v5 w' => ∃ (x3_1 : List Int) (x4_1 : List Int) (x5_1 : Int), v5 = .int .i64 x5_1 ∧ Aside0 (sobriquetlaw18_TeletexPlain.l0 kq l0 x3_1 x4_1 x5_1 = some r) ∧ Aside0 (kq ≤ k) ∧ Aside0 (Kd.R (Kd.int .i64) 3 w' w.heap.size (fun _ => True) v3 x3_1) ∧ Aside0 (Kd.R (Kd.int .u8) 5 w' w.heap.size (fun _ => True) v4 x4_1) ∧ Aside0 (Below w.heap.size w w'))
 case atStart => exact ⟨(([] : List Int)), (([] : List Int)), (0), (by first | rfl | (simp; done) | (simp [*]; done)), H', ⟨Nat.le_refl _⟩, ⟨by first | exact Kd.R_nil _ _ _ _ _ | exact Kd.N_nil _ _ _ _ _ | exact Kd.V_nil _ _ _ _ _ | exact Kd.Q_nil _ _ _ _ _ | exact Kd.S_nil _ _ _ _ _⟩, ⟨by first | exact Kd.R_nil _ _ _ _ _ | exact Kd.N_nil _ _ _ _ _ | exact Kd.V_nil _ _ _ _ _ | exact Kd.Q_nil _ _ _ _ _ | exact Kd.S_nil _ _ _ _ _⟩, ⟨by repeat (first | (with_reducible first | exact HB.out | apply below_alloc | apply pw_below_drewN | apply below_drew1) | exact HB.out)⟩⟩
 case round =>
  clear H'
  try clear c2
  try clear c2b0
  try clear c2b1
  try clear p2
  obtain ⟨x3_1, x4_1, x5_1, rfl, HA, HK1, HO_3, HO_4, HB⟩ := hrel
  cases gk with
  | zero => exact absurd HA.out (by simp [sobriquetlaw18_TeletexPlain.l0])
  | succ k1 =>
   have H := HA.out
   clear HA
   simp only [sobriquetlaw18_TeletexPlain.l0] at H
   by_cases c3 : x5_1 < (l0.length : Int)
   rotate_left
   ·rw [if_neg c3] at H
    have c3b0 : decide (x5_1 < (l0.length : Int)) = false := decide_eq_false c3
    clear c3
    replace H := Option.bind_eq_some_iff.mp H
    obtain ⟨⟨t703, t704, t705⟩, A1190, H⟩ := H
    replace H : (sobriquetlaw18_TeletexPlain.l1 k1 x4_1 t703 t705 0) = some r := H
    have A119 := Aside0.mk A1190
    clear A1190
    have H' := Aside0.mk H
    clear H
    obtain ⟨Ao120, co120, eo120⟩ := Kd.R_slice HO_3.out
    subst eo120
    go_wp2_with (first | ((with_reducible refine gate_callee (f := 10) rfl ?_); refine goesL_ (some 69) rfl rfl Try.func10 (by kernel_rfl) rfl #[.slice Ao120 x3_1.length co120] rfl (by (try simp only [List.map_toArray, List.map_cons, List.map_nil]); first | done | rfl | (simp only [List.length_drop, List.length_take]; rfl)) ?_; (with_reducible refine (teletex_Put.calls _ _ x3_1 t703 t704 t705 _ ?side1 ?side2 A119.out).mono ?_); (case side1 => repeat (first | exact (Kd.R_reads' HO_3.out).2.2 | (with_reducible refine Kd.C_alloc ?_ _) | (with_reducible refine Kd.C_drewN ?_ _) | (with_reducible refine Kd.C_drew ?_))); (case side2 => exact (Kd.R_reads' HO_3.out).2.1); rintro e w121 ⟨v706, rfl, ho0, hb⟩; refine ⟨_, rfl, ?_⟩; have n0_ := Aside0.mk (Kd.R_below (by (with_reducible repeat (first | apply Kd.R_alloc | apply Kd.R_drewN | apply Kd.R_drew)); exact HO_3.out) hb); have n1_ := Aside0.mk (Kd.R_elder' (by (with_reducible repeat (first | apply Kd.R_alloc | apply Kd.R_drewN | apply Kd.R_drew)); exact HO_4.out) (Kd.R_base ho0) hb); have n2_ := Aside0.mk (Kd.R_lower (Kd.R_new' ho0 (Kd.R_lt (by (with_reducible repeat (first | apply Kd.R_alloc | apply Kd.R_drewN | apply Kd.R_drew)); exact HO_4.out))) (below_size (by repeat (first | (with_reducible first | exact HB.out | apply below_alloc | apply pw_below_drewN | apply below_drew1) | exact HB.out)))); have n3_ := Aside0.mk (below_step (by repeat (first | (with_reducible first | exact HB.out | apply below_alloc | apply pw_below_drewN | apply below_drew1) | exact HB.out)) hb); clear HO_3; clear HO_4; clear HB; have HO_3 := n0_; have HO_4 := n1_; have HO707 := n2_; have HB := n3_; clear n0_ n1_ n2_ n3_; (try clear hb); (try clear hb2); (try clear hk); (try clear hi); (try clear ho0)))
    go_loopg [10] k1 (fun kq v10 w' => ∃ (x10_2 : Int), v10 = .int .i64 x10_2 ∧ Aside0 (sobriquetlaw18_TeletexPlain.l1 kq x4_1 t703 t705 x10_2 = some r) ∧ Aside0 (kq ≤ k1) ∧ Aside0 (Kd.R (Kd.int .u8) 5 w' w.heap.size (fun k_ => some k_ ≠ (v706 : Value).ownBlock) u4 x4_1) ∧ Aside0 (Kd.R (Kd.int .u8) 5 w' w.heap.size (fun k_ => some k_ ≠ (u4 : Value).ownBlock) v706 t703) ∧ Aside0 (Below w.heap.size w w'))
    case atStart => exact ⟨(0), (by first | rfl | (simp; done) | (simp [*]; done)), H', ⟨Nat.le_refl _⟩, ⟨by (with_reducible repeat (first | apply Kd.R_alloc | apply Kd.R_drewN | apply Kd.R_drew)); exact Kd.R_mono HO_4.out (fun _ hk => hk.2)⟩, ⟨by (with_reducible repeat (first | apply Kd.R_alloc | apply Kd.R_drewN | apply Kd.R_drew)); exact Kd.R_mono HO707.out (fun _ hk => hk.2)⟩, ⟨by repeat (first | (with_reducible first | exact HB.out | apply below_alloc | apply pw_below_drewN | apply below_drew1) | exact HB.out)⟩⟩
    case round =>
     clear H'
     try clear c1
     try clear p2
     try clear c3
     try clear c3b0
     try clear c4
     try clear c5
     try clear c5b0
     try clear p5
     try clear q5
     try clear hx5
     try clear c6
     try clear p6
     try clear c7
     try clear c8
     try clear c9
     try clear c10
     try clear c11
     try clear c46
     try clear c46b0
     try clear c46b1
     try clear c47
     try clear c48
     try clear c51
     try clear c51b0
     try clear c51b1
     try clear c52
     try clear c53
     try clear c56
     try clear c56b0
     try clear p56
     try clear q56
     try clear hx56
     try clear c57
     try clear c58
     try clear c61
     try clear c62
     try clear p64
     try clear c65
     try clear c65b0
     try clear c66
     try clear c66b0
     try clear c67
     try clear c68
     try clear c71
     try clear c71b0
     try clear c71b1
     try clear c72
     try clear c73
     try clear c76
     try clear c76b0
     try clear c76b1
     try clear c77
     try clear c78
     try clear c81
     try clear c81b0
     try clear c81b1
     try clear c82
     try clear c83
     try clear c86
     try clear c86b0
     try clear c87
     try clear c88
     try clear c91
     try clear c92
     try clear c95
     try clear c95b0
     try clear c95b1
     try clear c96
     try clear c97
     try clear c100
     try clear c100b0
     try clear c100b1
     try clear c101
     try clear c102
     try clear c105
     try clear c105b0
     try clear c105b1
     try clear c106
     try clear c107
     try clear c110
     try clear c110b0
     try clear c111
     try clear c112
     try clear c115
     try clear c116
     try clear hx564_0
     try clear p564
     try clear q564
     obtain ⟨x10_2, rfl, HA, HK2, HO_4, HO_7, HB⟩ := hrel
     cases gk with
     | zero => exact absurd HA.out (by simp [sobriquetlaw18_TeletexPlain.l1])
     | succ k2 =>
      have H := HA.out
      clear HA
      simp only [sobriquetlaw18_TeletexPlain.l1] at H
      by_cases c122 : x10_2 < 128
      rotate_left
      ·rw [if_neg c122] at H
       have c122b0 : decide (x10_2 < 128) = false := decide_eq_false c122
       clear c122
       by_cases c159 : t705 = 0
       rotate_left
       ·rw [if_neg c159] at H
        have c159b0 : (t705 == 0) = false := beq_eq_false_iff_ne.mpr c159
        have c159b1 : (t705 != 0) = true := bne_iff_ne.mpr c159
        obtain rfl := Option.some.inj H
        go_wp2
        go_ret
        exact ⟨by first | rfl | (simp [errW_none, errW_some] <;> rfl) | (simp [*, errW_none, errW_some] <;> rfl), by repeat (first | (with_reducible first | exact HB.out | apply below_alloc | apply pw_below_drewN | apply below_drew1) | exact HB.out)⟩
       rw [if_pos c159] at H
       have c159b0 : (t705 == 0) = true := beq_iff_eq.mpr c159
       have c159b1 : (t705 != 0) = false := bne_eq_false_iff_eq.mpr c159
       clear c159
       replace H := Option.bind_eq_some_iff.mp H
       obtain ⟨t709, A1600, H⟩ := H
       replace H : (if t709 = true then ((sobriquetlaw18_wakes.f).bind fun t710 => (some t710)) else (some false)) = some r := H
       have A160 := Aside0.mk A1600
       clear A1600
       by_cases c161 : t709 = true
       rotate_left
       ·replace c161 := Bool.eq_false_iff.mpr c161
        subst c161
        have H1 : (some false) = some r := by rw [if_neg (show ¬ (false = true) by decide)] at H; exact H
        clear H
        have H := H1
        clear H1
        obtain rfl := Option.some.inj H
        obtain ⟨Ao166, co166, eo166⟩ := Kd.R_slice HO_7.out
        subst eo166
        obtain ⟨Ao167, co167, eo167⟩ := Kd.R_slice HO_4.out
        subst eo167
        go_wp2_with (first | (go_at_call 15; (with_reducible refine (sobriquetkeep_Bytes.calls k2 _ _ t703 _ _ x4_1 false _ ?side1 ?side2 ?side3 ?side4 A160.out).mono ?_); (case side1 => repeat (first | exact (Kd.R_reads' HO_7.out).2.2 | (with_reducible refine Kd.C_alloc ?_ _) | (with_reducible refine Kd.C_drewN ?_ _) | (with_reducible refine Kd.C_drew ?_))); (case side2 => exact (Kd.R_reads' HO_7.out).2.1); (case side3 => repeat (first | exact (Kd.R_reads' HO_4.out).2.2 | (with_reducible refine Kd.C_alloc ?_ _) | (with_reducible refine Kd.C_drewN ?_ _) | (with_reducible refine Kd.C_drew ?_))); (case side4 => exact (Kd.R_reads' HO_4.out).2.1); rintro e w' ⟨rfl, ⟨nd, rfl⟩⟩))
        go_ret
        exact ⟨by first | rfl | (simp [errW_none, errW_some] <;> rfl) | (simp [*, errW_none, errW_some] <;> rfl), by repeat (first | (with_reducible first | exact HB.out | apply below_alloc | apply pw_below_drewN | apply below_drew1) | exact HB.out)⟩
       subst c161
       have H1 : ((sobriquetlaw18_wakes.f).bind fun t710 => (some t710)) = some r := by rw [if_pos rfl] at H; exact H
       clear H
       have H := H1
       clear H1
       replace H := Option.bind_eq_some_iff.mp H
       obtain ⟨t710, A1620, H⟩ := H
       replace H : (some t710) = some r := H
       have A162 := Aside0.mk A1620
       clear A1620
       obtain rfl := Option.some.inj H
       obtain ⟨Ao163, co163, eo163⟩ := Kd.R_slice HO_7.out
       subst eo163
       obtain ⟨Ao164, co164, eo164⟩ := Kd.R_slice HO_4.out
       subst eo164
       go_wp2_with (first | (go_at_call 15; (with_reducible refine (sobriquetkeep_Bytes.calls k2 _ _ t703 _ _ x4_1 true _ ?side1 ?side2 ?side3 ?side4 A160.out).mono ?_); (case side1 => repeat (first | exact (Kd.R_reads' HO_7.out).2.2 | (with_reducible refine Kd.C_alloc ?_ _) | (with_reducible refine Kd.C_drewN ?_ _) | (with_reducible refine Kd.C_drew ?_))); (case side2 => exact (Kd.R_reads' HO_7.out).2.1); (case side3 => repeat (first | exact (Kd.R_reads' HO_4.out).2.2 | (with_reducible refine Kd.C_alloc ?_ _) | (with_reducible refine Kd.C_drewN ?_ _) | (with_reducible refine Kd.C_drew ?_))); (case side4 => exact (Kd.R_reads' HO_4.out).2.1); rintro e w' ⟨rfl, ⟨nd, rfl⟩⟩) | (go_at_call 12; (with_reducible refine (sobriquetlaw18_wakes.calls  t710 _ A162.out).mono ?_); rintro e w165 ⟨rfl, hb⟩; have n0_ := Aside0.mk (Kd.R_below (by (with_reducible repeat (first | apply Kd.R_alloc | apply Kd.R_drewN | apply Kd.R_drew)); exact HO_4.out) hb); have n1_ := Aside0.mk (Kd.R_below (by (with_reducible repeat (first | apply Kd.R_alloc | apply Kd.R_drewN | apply Kd.R_drew)); exact HO_7.out) hb); have n2_ := Aside0.mk (below_step (by repeat (first | (with_reducible first | exact HB.out | apply below_alloc | apply pw_below_drewN | apply below_drew1) | exact HB.out)) hb); clear HO_4; clear HO_7; clear HB; have HO_4 := n0_; have HO_7 := n1_; have HB := n2_; clear n0_ n1_ n2_; (try clear hb); (try clear hb2); (try clear hk); (try clear hi)))
       go_ret
       exact ⟨by first | rfl | (simp [errW_none, errW_some] <;> rfl) | (simp [*, errW_none, errW_some] <;> rfl), by repeat (first | (with_reducible first | exact HB.out | apply below_alloc | apply pw_below_drewN | apply below_drew1) | exact HB.out)⟩
      rw [if_pos c122] at H
      have c122b0 : decide (x10_2 < 128) = true := decide_eq_true c122
      clear c122
      replace H := Option.bind_eq_some_iff.mp H
      obtain ⟨t708, A1230, H⟩ := H
      replace H : (if x10_2 ≥ 32 then (if x10_2 < 127 then (if (t708 != true) = true then (some false) else (sobriquetlaw18_TeletexPlain.l1 k2 x4_1 t703 t705 (wrap64 (x10_2 + 1)))) else (if x10_2 = 8 then (if (t708 != true) = true then (some false) else (sobriquetlaw18_TeletexPlain.l1 k2 x4_1 t703 t705 (wrap64 (x10_2 + 1)))) else (if x10_2 = 10 then (if (t708 != true) = true then (some false) else (sobriquetlaw18_TeletexPlain.l1 k2 x4_1 t703 t705 (wrap64 (x10_2 + 1)))) else (if x10_2 = 12 then (if (t708 != true) = true then (some false) else (sobriquetlaw18_TeletexPlain.l1 k2 x4_1 t703 t705 (wrap64 (x10_2 + 1)))) else (if (t708 != (x10_2 == 13)) = true then (some false) else (sobriquetlaw18_TeletexPlain.l1 k2 x4_1 t703 t705 (wrap64 (x10_2 + 1)))))))) else (if x10_2 = 8 then (if (t708 != true) = true then (some false) else (sobriquetlaw18_TeletexPlain.l1 k2 x4_1 t703 t705 (wrap64 (x10_2 + 1)))) else (if x10_2 = 10 then (if (t708 != true) = true then (some false) else (sobriquetlaw18_TeletexPlain.l1 k2 x4_1 t703 t705 (wrap64 (x10_2 + 1)))) else (if x10_2 = 12 then (if (t708 != true) = true then (some false) else (sobriquetlaw18_TeletexPlain.l1 k2 x4_1 t703 t705 (wrap64 (x10_2 + 1)))) else (if (t708 != (x10_2 == 13)) = true then (some false) else (sobriquetlaw18_TeletexPlain.l1 k2 x4_1 t703 t705 (wrap64 (x10_2 + 1)))))))) = some r := H
      have A123 := Aside0.mk A1230
      clear A1230
      by_cases c124 : x10_2 ≥ 32
      rotate_left
      ·rw [if_neg c124] at H
       have c124b0 : decide (32 ≤ x10_2) = false := decide_eq_false c124
       clear c124
       by_cases c144 : x10_2 = 8
       ·rw [if_pos c144] at H
        have c144b0 : (x10_2 == 8) = true := beq_iff_eq.mpr c144
        have c144b1 : (x10_2 != 8) = false := bne_eq_false_iff_eq.mpr c144
        clear c144
        by_cases c145 : (t708 != true) = true
        ·rw [if_pos c145] at H
         have c145b0 : (t708 != true) = true := c145
         (try (have c145b1 : decide (t708 = true) = false := by simpa using c145))
         (try (have c145b2 : (t708 == true) = false := by simpa using c145))
         (try (have c145b3 : ¬ (t708 = true) := by simpa using c145))
         clear c145
         obtain rfl := Option.some.inj H
         go_wp2_with (first | ((with_reducible refine gate_callee (f := 11) rfl ?_); refine goesL_ (some 78) rfl rfl Try.func11 (by kernel_rfl) rfl #[.int .i64 x10_2] rfl (by (try simp only [List.map_toArray, List.map_cons, List.map_nil]); first | done | rfl | (simp only [List.length_drop, List.length_take]; rfl)) ?_; (with_reducible refine (teletex_Has.calls x10_2 t708 _ A123.out).mono ?_); rintro e w146 ⟨rfl, hb⟩; refine ⟨_, rfl, ?_⟩; have n0_ := Aside0.mk (Kd.R_below (by (with_reducible repeat (first | apply Kd.R_alloc | apply Kd.R_drewN | apply Kd.R_drew)); exact HO_4.out) hb); have n1_ := Aside0.mk (Kd.R_below (by (with_reducible repeat (first | apply Kd.R_alloc | apply Kd.R_drewN | apply Kd.R_drew)); exact HO_7.out) hb); have n2_ := Aside0.mk (below_step (by repeat (first | (with_reducible first | exact HB.out | apply below_alloc | apply pw_below_drewN | apply below_drew1) | exact HB.out)) hb); clear HO_4; clear HO_7; clear HB; have HO_4 := n0_; have HO_7 := n1_; have HB := n2_; clear n0_ n1_ n2_; (try clear hb); (try clear hb2); (try clear hk); (try clear hi)))
         go_ret
         exact ⟨by first | rfl | (simp [errW_none, errW_some] <;> rfl) | (simp [*, errW_none, errW_some] <;> rfl), by repeat (first | (with_reducible first | exact HB.out | apply below_alloc | apply pw_below_drewN | apply below_drew1) | exact HB.out)⟩
        rw [if_neg c145] at H
        have c145b0 : (t708 != true) = false := by simpa using c145
        (try (have c145b1 : decide (t708 = true) = true := by simpa using c145))
        (try (have c145b2 : (t708 == true) = true := by simpa using c145))
        clear c145
        have H' := Aside0.mk H
        clear H
        go_wp2_with (first | ((with_reducible refine gate_callee (f := 11) rfl ?_); refine goesL_ (some 78) rfl rfl Try.func11 (by kernel_rfl) rfl #[.int .i64 x10_2] rfl (by (try simp only [List.map_toArray, List.map_cons, List.map_nil]); first | done | rfl | (simp only [List.length_drop, List.length_take]; rfl)) ?_; (with_reducible refine (teletex_Has.calls x10_2 t708 _ A123.out).mono ?_); rintro e w147 ⟨rfl, hb⟩; refine ⟨_, rfl, ?_⟩; have n0_ := Aside0.mk (Kd.R_below (by (with_reducible repeat (first | apply Kd.R_alloc | apply Kd.R_drewN | apply Kd.R_drew)); exact HO_4.out) hb); have n1_ := Aside0.mk (Kd.R_below (by (with_reducible repeat (first | apply Kd.R_alloc | apply Kd.R_drewN | apply Kd.R_drew)); exact HO_7.out) hb); have n2_ := Aside0.mk (below_step (by repeat (first | (with_reducible first | exact HB.out | apply below_alloc | apply pw_below_drewN | apply below_drew1) | exact HB.out)) hb); clear HO_4; clear HO_7; clear HB; have HO_4 := n0_; have HO_7 := n1_; have HB := n2_; clear n0_ n1_ n2_; (try clear hb); (try clear hb2); (try clear hk); (try clear hi)))
        go_roundg k2
        case measure => have := HK1.out; have := HK2.out; omega
        case rel => exact ⟨(wrap64 (x10_2 + 1)), (by first | rfl | (simp; done) | (simp [*]; done)), H', ⟨by have := HK1.out; have := HK2.out; omega⟩, ⟨by (with_reducible repeat (first | apply Kd.R_alloc | apply Kd.R_drewN | apply Kd.R_drew)); exact HO_4.out⟩, ⟨by (with_reducible repeat (first | apply Kd.R_alloc | apply Kd.R_drewN | apply Kd.R_drew)); exact HO_7.out⟩, ⟨by repeat (first | (with_reducible first | exact HB.out | apply below_alloc | apply pw_below_drewN | apply below_drew1) | exact HB.out)⟩⟩
       rw [if_neg c144] at H
       have c144b0 : (x10_2 == 8) = false := beq_eq_false_iff_ne.mpr c144
       have c144b1 : (x10_2 != 8) = true := bne_iff_ne.mpr c144
       by_cases c148 : x10_2 = 10
       ·rw [if_pos c148] at H
        have c148b0 : (x10_2 == 10) = true := beq_iff_eq.mpr c148
        have c148b1 : (x10_2 != 10) = false := bne_eq_false_iff_eq.mpr c148
        clear c148
        by_cases c149 : (t708 != true) = true
        ·rw [if_pos c149] at H
         have c149b0 : (t708 != true) = true := c149
         (try (have c149b1 : decide (t708 = true) = false := by simpa using c149))
         (try (have c149b2 : (t708 == true) = false := by simpa using c149))
         (try (have c149b3 : ¬ (t708 = true) := by simpa using c149))
         clear c149
         obtain rfl := Option.some.inj H
         go_wp2_with (first | ((with_reducible refine gate_callee (f := 11) rfl ?_); refine goesL_ (some 78) rfl rfl Try.func11 (by kernel_rfl) rfl #[.int .i64 x10_2] rfl (by (try simp only [List.map_toArray, List.map_cons, List.map_nil]); first | done | rfl | (simp only [List.length_drop, List.length_take]; rfl)) ?_; (with_reducible refine (teletex_Has.calls x10_2 t708 _ A123.out).mono ?_); rintro e w150 ⟨rfl, hb⟩; refine ⟨_, rfl, ?_⟩; have n0_ := Aside0.mk (Kd.R_below (by (with_reducible repeat (first | apply Kd.R_alloc | apply Kd.R_drewN | apply Kd.R_drew)); exact HO_4.out) hb); have n1_ := Aside0.mk (Kd.R_below (by (with_reducible repeat (first | apply Kd.R_alloc | apply Kd.R_drewN | apply Kd.R_drew)); exact HO_7.out) hb); have n2_ := Aside0.mk (below_step (by repeat (first | (with_reducible first | exact HB.out | apply below_alloc | apply pw_below_drewN | apply below_drew1) | exact HB.out)) hb); clear HO_4; clear HO_7; clear HB; have HO_4 := n0_; have HO_7 := n1_; have HB := n2_; clear n0_ n1_ n2_; (try clear hb); (try clear hb2); (try clear hk); (try clear hi)))
         go_ret
         exact ⟨by first | rfl | (simp [errW_none, errW_some] <;> rfl) | (simp [*, errW_none, errW_some] <;> rfl), by repeat (first | (with_reducible first | exact HB.out | apply below_alloc | apply pw_below_drewN | apply below_drew1) | exact HB.out)⟩
        rw [if_neg c149] at H
        have c149b0 : (t708 != true) = false := by simpa using c149
        (try (have c149b1 : decide (t708 = true) = true := by simpa using c149))
        (try (have c149b2 : (t708 == true) = true := by simpa using c149))
        clear c149
        have H' := Aside0.mk H
        clear H
        go_wp2_with (first | ((with_reducible refine gate_callee (f := 11) rfl ?_); refine goesL_ (some 78) rfl rfl Try.func11 (by kernel_rfl) rfl #[.int .i64 x10_2] rfl (by (try simp only [List.map_toArray, List.map_cons, List.map_nil]); first | done | rfl | (simp only [List.length_drop, List.length_take]; rfl)) ?_; (with_reducible refine (teletex_Has.calls x10_2 t708 _ A123.out).mono ?_); rintro e w151 ⟨rfl, hb⟩; refine ⟨_, rfl, ?_⟩; have n0_ := Aside0.mk (Kd.R_below (by (with_reducible repeat (first | apply Kd.R_alloc | apply Kd.R_drewN | apply Kd.R_drew)); exact HO_4.out) hb); have n1_ := Aside0.mk (Kd.R_below (by (with_reducible repeat (first | apply Kd.R_alloc | apply Kd.R_drewN | apply Kd.R_drew)); exact HO_7.out) hb); have n2_ := Aside0.mk (below_step (by repeat (first | (with_reducible first | exact HB.out | apply below_alloc | apply pw_below_drewN | apply below_drew1) | exact HB.out)) hb); clear HO_4; clear HO_7; clear HB; have HO_4 := n0_; have HO_7 := n1_; have HB := n2_; clear n0_ n1_ n2_; (try clear hb); (try clear hb2); (try clear hk); (try clear hi)))
        go_roundg k2
        case measure => have := HK1.out; have := HK2.out; omega
        case rel => exact ⟨(wrap64 (x10_2 + 1)), (by first | rfl | (simp; done) | (simp [*]; done)), H', ⟨by have := HK1.out; have := HK2.out; omega⟩, ⟨by (with_reducible repeat (first | apply Kd.R_alloc | apply Kd.R_drewN | apply Kd.R_drew)); exact HO_4.out⟩, ⟨by (with_reducible repeat (first | apply Kd.R_alloc | apply Kd.R_drewN | apply Kd.R_drew)); exact HO_7.out⟩, ⟨by repeat (first | (with_reducible first | exact HB.out | apply below_alloc | apply pw_below_drewN | apply below_drew1) | exact HB.out)⟩⟩
       rw [if_neg c148] at H
       have c148b0 : (x10_2 == 10) = false := beq_eq_false_iff_ne.mpr c148
       have c148b1 : (x10_2 != 10) = true := bne_iff_ne.mpr c148
       by_cases c152 : x10_2 = 12
       rotate_left
       ·rw [if_neg c152] at H
        have c152b0 : (x10_2 == 12) = false := beq_eq_false_iff_ne.mpr c152
        have c152b1 : (x10_2 != 12) = true := bne_iff_ne.mpr c152
        by_cases c156 : (t708 != (x10_2 == 13)) = true
        ·rw [if_pos c156] at H
         have c156b0 : (t708 != (x10_2 == 13)) = true := c156
         (try (have c156b1 : decide (t708 = (x10_2 == 13)) = false := by simpa using c156))
         (try (have c156b2 : (t708 == (x10_2 == 13)) = false := by simpa using c156))
         (try (have c156b3 : ¬ (t708 = (x10_2 == 13)) := by simpa using c156))
         clear c156
         obtain rfl := Option.some.inj H
         go_wp2_with (first | ((with_reducible refine gate_callee (f := 11) rfl ?_); refine goesL_ (some 78) rfl rfl Try.func11 (by kernel_rfl) rfl #[.int .i64 x10_2] rfl (by (try simp only [List.map_toArray, List.map_cons, List.map_nil]); first | done | rfl | (simp only [List.length_drop, List.length_take]; rfl)) ?_; (with_reducible refine (teletex_Has.calls x10_2 t708 _ A123.out).mono ?_); rintro e w157 ⟨rfl, hb⟩; refine ⟨_, rfl, ?_⟩; have n0_ := Aside0.mk (Kd.R_below (by (with_reducible repeat (first | apply Kd.R_alloc | apply Kd.R_drewN | apply Kd.R_drew)); exact HO_4.out) hb); have n1_ := Aside0.mk (Kd.R_below (by (with_reducible repeat (first | apply Kd.R_alloc | apply Kd.R_drewN | apply Kd.R_drew)); exact HO_7.out) hb); have n2_ := Aside0.mk (below_step (by repeat (first | (with_reducible first | exact HB.out | apply below_alloc | apply pw_below_drewN | apply below_drew1) | exact HB.out)) hb); clear HO_4; clear HO_7; clear HB; have HO_4 := n0_; have HO_7 := n1_; have HB := n2_; clear n0_ n1_ n2_; (try clear hb); (try clear hb2); (try clear hk); (try clear hi)))
         go_ret
         exact ⟨by first | rfl | (simp [errW_none, errW_some] <;> rfl) | (simp [*, errW_none, errW_some] <;> rfl), by repeat (first | (with_reducible first | exact HB.out | apply below_alloc | apply pw_below_drewN | apply below_drew1) | exact HB.out)⟩
        rw [if_neg c156] at H
        have c156b0 : (t708 != (x10_2 == 13)) = false := by simpa using c156
        (try (have c156b1 : decide (t708 = (x10_2 == 13)) = true := by simpa using c156))
        (try (have c156b2 : (t708 == (x10_2 == 13)) = true := by simpa using c156))
        clear c156
        have H' := Aside0.mk H
        clear H
        go_wp2_with (first | ((with_reducible refine gate_callee (f := 11) rfl ?_); refine goesL_ (some 78) rfl rfl Try.func11 (by kernel_rfl) rfl #[.int .i64 x10_2] rfl (by (try simp only [List.map_toArray, List.map_cons, List.map_nil]); first | done | rfl | (simp only [List.length_drop, List.length_take]; rfl)) ?_; (with_reducible refine (teletex_Has.calls x10_2 t708 _ A123.out).mono ?_); rintro e w158 ⟨rfl, hb⟩; refine ⟨_, rfl, ?_⟩; have n0_ := Aside0.mk (Kd.R_below (by (with_reducible repeat (first | apply Kd.R_alloc | apply Kd.R_drewN | apply Kd.R_drew)); exact HO_4.out) hb); have n1_ := Aside0.mk (Kd.R_below (by (with_reducible repeat (first | apply Kd.R_alloc | apply Kd.R_drewN | apply Kd.R_drew)); exact HO_7.out) hb); have n2_ := Aside0.mk (below_step (by repeat (first | (with_reducible first | exact HB.out | apply below_alloc | apply pw_below_drewN | apply below_drew1) | exact HB.out)) hb); clear HO_4; clear HO_7; clear HB; have HO_4 := n0_; have HO_7 := n1_; have HB := n2_; clear n0_ n1_ n2_; (try clear hb); (try clear hb2); (try clear hk); (try clear hi)))
        go_roundg k2
        case measure => have := HK1.out; have := HK2.out; omega
        case rel => exact ⟨(wrap64 (x10_2 + 1)), (by first | rfl | (simp; done) | (simp [*]; done)), H', ⟨by have := HK1.out; have := HK2.out; omega⟩, ⟨by (with_reducible repeat (first | apply Kd.R_alloc | apply Kd.R_drewN | apply Kd.R_drew)); exact HO_4.out⟩, ⟨by (with_reducible repeat (first | apply Kd.R_alloc | apply Kd.R_drewN | apply Kd.R_drew)); exact HO_7.out⟩, ⟨by repeat (first | (with_reducible first | exact HB.out | apply below_alloc | apply pw_below_drewN | apply below_drew1) | exact HB.out)⟩⟩
       rw [if_pos c152] at H
       have c152b0 : (x10_2 == 12) = true := beq_iff_eq.mpr c152
       have c152b1 : (x10_2 != 12) = false := bne_eq_false_iff_eq.mpr c152
       clear c152
       by_cases c153 : (t708 != true) = true
       ·rw [if_pos c153] at H
        have c153b0 : (t708 != true) = true := c153
        (try (have c153b1 : decide (t708 = true) = false := by simpa using c153))
        (try (have c153b2 : (t708 == true) = false := by simpa using c153))
        (try (have c153b3 : ¬ (t708 = true) := by simpa using c153))
        clear c153
        obtain rfl := Option.some.inj H
        go_wp2_with (first | ((with_reducible refine gate_callee (f := 11) rfl ?_); refine goesL_ (some 78) rfl rfl Try.func11 (by kernel_rfl) rfl #[.int .i64 x10_2] rfl (by (try simp only [List.map_toArray, List.map_cons, List.map_nil]); first | done | rfl | (simp only [List.length_drop, List.length_take]; rfl)) ?_; (with_reducible refine (teletex_Has.calls x10_2 t708 _ A123.out).mono ?_); rintro e w154 ⟨rfl, hb⟩; refine ⟨_, rfl, ?_⟩; have n0_ := Aside0.mk (Kd.R_below (by (with_reducible repeat (first | apply Kd.R_alloc | apply Kd.R_drewN | apply Kd.R_drew)); exact HO_4.out) hb); have n1_ := Aside0.mk (Kd.R_below (by (with_reducible repeat (first | apply Kd.R_alloc | apply Kd.R_drewN | apply Kd.R_drew)); exact HO_7.out) hb); have n2_ := Aside0.mk (below_step (by repeat (first | (with_reducible first | exact HB.out | apply below_alloc | apply pw_below_drewN | apply below_drew1) | exact HB.out)) hb); clear HO_4; clear HO_7; clear HB; have HO_4 := n0_; have HO_7 := n1_; have HB := n2_; clear n0_ n1_ n2_; (try clear hb); (try clear hb2); (try clear hk); (try clear hi)))
        go_ret
        exact ⟨by first | rfl | (simp [errW_none, errW_some] <;> rfl) | (simp [*, errW_none, errW_some] <;> rfl), by repeat (first | (with_reducible first | exact HB.out | apply below_alloc | apply pw_below_drewN | apply below_drew1) | exact HB.out)⟩
       rw [if_neg c153] at H
       have c153b0 : (t708 != true) = false := by simpa using c153
       (try (have c153b1 : decide (t708 = true) = true := by simpa using c153))
       (try (have c153b2 : (t708 == true) = true := by simpa using c153))
       clear c153
       have H' := Aside0.mk H
       clear H
       go_wp2_with (first | ((with_reducible refine gate_callee (f := 11) rfl ?_); refine goesL_ (some 78) rfl rfl Try.func11 (by kernel_rfl) rfl #[.int .i64 x10_2] rfl (by (try simp only [List.map_toArray, List.map_cons, List.map_nil]); first | done | rfl | (simp only [List.length_drop, List.length_take]; rfl)) ?_; (with_reducible refine (teletex_Has.calls x10_2 t708 _ A123.out).mono ?_); rintro e w155 ⟨rfl, hb⟩; refine ⟨_, rfl, ?_⟩; have n0_ := Aside0.mk (Kd.R_below (by (with_reducible repeat (first | apply Kd.R_alloc | apply Kd.R_drewN | apply Kd.R_drew)); exact HO_4.out) hb); have n1_ := Aside0.mk (Kd.R_below (by (with_reducible repeat (first | apply Kd.R_alloc | apply Kd.R_drewN | apply Kd.R_drew)); exact HO_7.out) hb); have n2_ := Aside0.mk (below_step (by repeat (first | (with_reducible first | exact HB.out | apply below_alloc | apply pw_below_drewN | apply below_drew1) | exact HB.out)) hb); clear HO_4; clear HO_7; clear HB; have HO_4 := n0_; have HO_7 := n1_; have HB := n2_; clear n0_ n1_ n2_; (try clear hb); (try clear hb2); (try clear hk); (try clear hi)))
       go_roundg k2
       case measure => have := HK1.out; have := HK2.out; omega
       case rel => exact ⟨(wrap64 (x10_2 + 1)), (by first | rfl | (simp; done) | (simp [*]; done)), H', ⟨by have := HK1.out; have := HK2.out; omega⟩, ⟨by (with_reducible repeat (first | apply Kd.R_alloc | apply Kd.R_drewN | apply Kd.R_drew)); exact HO_4.out⟩, ⟨by (with_reducible repeat (first | apply Kd.R_alloc | apply Kd.R_drewN | apply Kd.R_drew)); exact HO_7.out⟩, ⟨by repeat (first | (with_reducible first | exact HB.out | apply below_alloc | apply pw_below_drewN | apply below_drew1) | exact HB.out)⟩⟩
      rw [if_pos c124] at H
      have c124b0 : decide (32 ≤ x10_2) = true := decide_eq_true c124
      clear c124
      by_cases c125 : x10_2 < 127
      ·rw [if_pos c125] at H
       have c125b0 : decide (x10_2 < 127) = true := decide_eq_true c125
       clear c125
       by_cases c126 : (t708 != true) = true
       ·rw [if_pos c126] at H
        have c126b0 : (t708 != true) = true := c126
        (try (have c126b1 : decide (t708 = true) = false := by simpa using c126))
        (try (have c126b2 : (t708 == true) = false := by simpa using c126))
        (try (have c126b3 : ¬ (t708 = true) := by simpa using c126))
        clear c126
        obtain rfl := Option.some.inj H
        go_wp2_with (first | ((with_reducible refine gate_callee (f := 11) rfl ?_); refine goesL_ (some 78) rfl rfl Try.func11 (by kernel_rfl) rfl #[.int .i64 x10_2] rfl (by (try simp only [List.map_toArray, List.map_cons, List.map_nil]); first | done | rfl | (simp only [List.length_drop, List.length_take]; rfl)) ?_; (with_reducible refine (teletex_Has.calls x10_2 t708 _ A123.out).mono ?_); rintro e w127 ⟨rfl, hb⟩; refine ⟨_, rfl, ?_⟩; have n0_ := Aside0.mk (Kd.R_below (by (with_reducible repeat (first | apply Kd.R_alloc | apply Kd.R_drewN | apply Kd.R_drew)); exact HO_4.out) hb); have n1_ := Aside0.mk (Kd.R_below (by (with_reducible repeat (first | apply Kd.R_alloc | apply Kd.R_drewN | apply Kd.R_drew)); exact HO_7.out) hb); have n2_ := Aside0.mk (below_step (by repeat (first | (with_reducible first | exact HB.out | apply below_alloc | apply pw_below_drewN | apply below_drew1) | exact HB.out)) hb); clear HO_4; clear HO_7; clear HB; have HO_4 := n0_; have HO_7 := n1_; have HB := n2_; clear n0_ n1_ n2_; (try clear hb); (try clear hb2); (try clear hk); (try clear hi)))
        go_ret
        exact ⟨by first | rfl | (simp [errW_none, errW_some] <;> rfl) | (simp [*, errW_none, errW_some] <;> rfl), by repeat (first | (with_reducible first | exact HB.out | apply below_alloc | apply pw_below_drewN | apply below_drew1) | exact HB.out)⟩
       rw [if_neg c126] at H
       have c126b0 : (t708 != true) = false := by simpa using c126
       (try (have c126b1 : decide (t708 = true) = true := by simpa using c126))
       (try (have c126b2 : (t708 == true) = true := by simpa using c126))
       clear c126
       have H' := Aside0.mk H
       clear H
       go_wp2_with (first | ((with_reducible refine gate_callee (f := 11) rfl ?_); refine goesL_ (some 78) rfl rfl Try.func11 (by kernel_rfl) rfl #[.int .i64 x10_2] rfl (by (try simp only [List.map_toArray, List.map_cons, List.map_nil]); first | done | rfl | (simp only [List.length_drop, List.length_take]; rfl)) ?_; (with_reducible refine (teletex_Has.calls x10_2 t708 _ A123.out).mono ?_); rintro e w128 ⟨rfl, hb⟩; refine ⟨_, rfl, ?_⟩; have n0_ := Aside0.mk (Kd.R_below (by (with_reducible repeat (first | apply Kd.R_alloc | apply Kd.R_drewN | apply Kd.R_drew)); exact HO_4.out) hb); have n1_ := Aside0.mk (Kd.R_below (by (with_reducible repeat (first | apply Kd.R_alloc | apply Kd.R_drewN | apply Kd.R_drew)); exact HO_7.out) hb); have n2_ := Aside0.mk (below_step (by repeat (first | (with_reducible first | exact HB.out | apply below_alloc | apply pw_below_drewN | apply below_drew1) | exact HB.out)) hb); clear HO_4; clear HO_7; clear HB; have HO_4 := n0_; have HO_7 := n1_; have HB := n2_; clear n0_ n1_ n2_; (try clear hb); (try clear hb2); (try clear hk); (try clear hi)))
       go_roundg k2
       case measure => have := HK1.out; have := HK2.out; omega
       case rel => exact ⟨(wrap64 (x10_2 + 1)), (by first | rfl | (simp; done) | (simp [*]; done)), H', ⟨by have := HK1.out; have := HK2.out; omega⟩, ⟨by (with_reducible repeat (first | apply Kd.R_alloc | apply Kd.R_drewN | apply Kd.R_drew)); exact HO_4.out⟩, ⟨by (with_reducible repeat (first | apply Kd.R_alloc | apply Kd.R_drewN | apply Kd.R_drew)); exact HO_7.out⟩, ⟨by repeat (first | (with_reducible first | exact HB.out | apply below_alloc | apply pw_below_drewN | apply below_drew1) | exact HB.out)⟩⟩
      rw [if_neg c125] at H
      have c125b0 : decide (x10_2 < 127) = false := decide_eq_false c125
      clear c125
      by_cases c129 : x10_2 = 8
      ·rw [if_pos c129] at H
       have c129b0 : (x10_2 == 8) = true := beq_iff_eq.mpr c129
       have c129b1 : (x10_2 != 8) = false := bne_eq_false_iff_eq.mpr c129
       clear c129
       by_cases c130 : (t708 != true) = true
       ·rw [if_pos c130] at H
        have c130b0 : (t708 != true) = true := c130
        (try (have c130b1 : decide (t708 = true) = false := by simpa using c130))
        (try (have c130b2 : (t708 == true) = false := by simpa using c130))
        (try (have c130b3 : ¬ (t708 = true) := by simpa using c130))
        clear c130
        obtain rfl := Option.some.inj H
        go_wp2_with (first | ((with_reducible refine gate_callee (f := 11) rfl ?_); refine goesL_ (some 78) rfl rfl Try.func11 (by kernel_rfl) rfl #[.int .i64 x10_2] rfl (by (try simp only [List.map_toArray, List.map_cons, List.map_nil]); first | done | rfl | (simp only [List.length_drop, List.length_take]; rfl)) ?_; (with_reducible refine (teletex_Has.calls x10_2 t708 _ A123.out).mono ?_); rintro e w131 ⟨rfl, hb⟩; refine ⟨_, rfl, ?_⟩; have n0_ := Aside0.mk (Kd.R_below (by (with_reducible repeat (first | apply Kd.R_alloc | apply Kd.R_drewN | apply Kd.R_drew)); exact HO_4.out) hb); have n1_ := Aside0.mk (Kd.R_below (by (with_reducible repeat (first | apply Kd.R_alloc | apply Kd.R_drewN | apply Kd.R_drew)); exact HO_7.out) hb); have n2_ := Aside0.mk (below_step (by repeat (first | (with_reducible first | exact HB.out | apply below_alloc | apply pw_below_drewN | apply below_drew1) | exact HB.out)) hb); clear HO_4; clear HO_7; clear HB; have HO_4 := n0_; have HO_7 := n1_; have HB := n2_; clear n0_ n1_ n2_; (try clear hb); (try clear hb2); (try clear hk); (try clear hi)))
        go_ret
        exact ⟨by first | rfl | (simp [errW_none, errW_some] <;> rfl) | (simp [*, errW_none, errW_some] <;> rfl), by repeat (first | (with_reducible first | exact HB.out | apply below_alloc | apply pw_below_drewN | apply below_drew1) | exact HB.out)⟩
       rw [if_neg c130] at H
       have c130b0 : (t708 != true) = false := by simpa using c130
       (try (have c130b1 : decide (t708 = true) = true := by simpa using c130))
       (try (have c130b2 : (t708 == true) = true := by simpa using c130))
       clear c130
       have H' := Aside0.mk H
       clear H
       go_wp2_with (first | ((with_reducible refine gate_callee (f := 11) rfl ?_); refine goesL_ (some 78) rfl rfl Try.func11 (by kernel_rfl) rfl #[.int .i64 x10_2] rfl (by (try simp only [List.map_toArray, List.map_cons, List.map_nil]); first | done | rfl | (simp only [List.length_drop, List.length_take]; rfl)) ?_; (with_reducible refine (teletex_Has.calls x10_2 t708 _ A123.out).mono ?_); rintro e w132 ⟨rfl, hb⟩; refine ⟨_, rfl, ?_⟩; have n0_ := Aside0.mk (Kd.R_below (by (with_reducible repeat (first | apply Kd.R_alloc | apply Kd.R_drewN | apply Kd.R_drew)); exact HO_4.out) hb); have n1_ := Aside0.mk (Kd.R_below (by (with_reducible repeat (first | apply Kd.R_alloc | apply Kd.R_drewN | apply Kd.R_drew)); exact HO_7.out) hb); have n2_ := Aside0.mk (below_step (by repeat (first | (with_reducible first | exact HB.out | apply below_alloc | apply pw_below_drewN | apply below_drew1) | exact HB.out)) hb); clear HO_4; clear HO_7; clear HB; have HO_4 := n0_; have HO_7 := n1_; have HB := n2_; clear n0_ n1_ n2_; (try clear hb); (try clear hb2); (try clear hk); (try clear hi)))
       go_roundg k2
       case measure => have := HK1.out; have := HK2.out; omega
       case rel => exact ⟨(wrap64 (x10_2 + 1)), (by first | rfl | (simp; done) | (simp [*]; done)), H', ⟨by have := HK1.out; have := HK2.out; omega⟩, ⟨by (with_reducible repeat (first | apply Kd.R_alloc | apply Kd.R_drewN | apply Kd.R_drew)); exact HO_4.out⟩, ⟨by (with_reducible repeat (first | apply Kd.R_alloc | apply Kd.R_drewN | apply Kd.R_drew)); exact HO_7.out⟩, ⟨by repeat (first | (with_reducible first | exact HB.out | apply below_alloc | apply pw_below_drewN | apply below_drew1) | exact HB.out)⟩⟩
      rw [if_neg c129] at H
      have c129b0 : (x10_2 == 8) = false := beq_eq_false_iff_ne.mpr c129
      have c129b1 : (x10_2 != 8) = true := bne_iff_ne.mpr c129
      by_cases c133 : x10_2 = 10
      ·rw [if_pos c133] at H
       have c133b0 : (x10_2 == 10) = true := beq_iff_eq.mpr c133
       have c133b1 : (x10_2 != 10) = false := bne_eq_false_iff_eq.mpr c133
       clear c133
       by_cases c134 : (t708 != true) = true
       ·rw [if_pos c134] at H
        have c134b0 : (t708 != true) = true := c134
        (try (have c134b1 : decide (t708 = true) = false := by simpa using c134))
        (try (have c134b2 : (t708 == true) = false := by simpa using c134))
        (try (have c134b3 : ¬ (t708 = true) := by simpa using c134))
        clear c134
        obtain rfl := Option.some.inj H
        go_wp2_with (first | ((with_reducible refine gate_callee (f := 11) rfl ?_); refine goesL_ (some 78) rfl rfl Try.func11 (by kernel_rfl) rfl #[.int .i64 x10_2] rfl (by (try simp only [List.map_toArray, List.map_cons, List.map_nil]); first | done | rfl | (simp only [List.length_drop, List.length_take]; rfl)) ?_; (with_reducible refine (teletex_Has.calls x10_2 t708 _ A123.out).mono ?_); rintro e w135 ⟨rfl, hb⟩; refine ⟨_, rfl, ?_⟩; have n0_ := Aside0.mk (Kd.R_below (by (with_reducible repeat (first | apply Kd.R_alloc | apply Kd.R_drewN | apply Kd.R_drew)); exact HO_4.out) hb); have n1_ := Aside0.mk (Kd.R_below (by (with_reducible repeat (first | apply Kd.R_alloc | apply Kd.R_drewN | apply Kd.R_drew)); exact HO_7.out) hb); have n2_ := Aside0.mk (below_step (by repeat (first | (with_reducible first | exact HB.out | apply below_alloc | apply pw_below_drewN | apply below_drew1) | exact HB.out)) hb); clear HO_4; clear HO_7; clear HB; have HO_4 := n0_; have HO_7 := n1_; have HB := n2_; clear n0_ n1_ n2_; (try clear hb); (try clear hb2); (try clear hk); (try clear hi)))
        go_ret
        exact ⟨by first | rfl | (simp [errW_none, errW_some] <;> rfl) | (simp [*, errW_none, errW_some] <;> rfl), by repeat (first | (with_reducible first | exact HB.out | apply below_alloc | apply pw_below_drewN | apply below_drew1) | exact HB.out)⟩
       rw [if_neg c134] at H
       have c134b0 : (t708 != true) = false := by simpa using c134
       (try (have c134b1 : decide (t708 = true) = true := by simpa using c134))
       (try (have c134b2 : (t708 == true) = true := by simpa using c134))
       clear c134
       have H' := Aside0.mk H
       clear H
       go_wp2_with (first | ((with_reducible refine gate_callee (f := 11) rfl ?_); refine goesL_ (some 78) rfl rfl Try.func11 (by kernel_rfl) rfl #[.int .i64 x10_2] rfl (by (try simp only [List.map_toArray, List.map_cons, List.map_nil]); first | done | rfl | (simp only [List.length_drop, List.length_take]; rfl)) ?_; (with_reducible refine (teletex_Has.calls x10_2 t708 _ A123.out).mono ?_); rintro e w136 ⟨rfl, hb⟩; refine ⟨_, rfl, ?_⟩; have n0_ := Aside0.mk (Kd.R_below (by (with_reducible repeat (first | apply Kd.R_alloc | apply Kd.R_drewN | apply Kd.R_drew)); exact HO_4.out) hb); have n1_ := Aside0.mk (Kd.R_below (by (with_reducible repeat (first | apply Kd.R_alloc | apply Kd.R_drewN | apply Kd.R_drew)); exact HO_7.out) hb); have n2_ := Aside0.mk (below_step (by repeat (first | (with_reducible first | exact HB.out | apply below_alloc | apply pw_below_drewN | apply below_drew1) | exact HB.out)) hb); clear HO_4; clear HO_7; clear HB; have HO_4 := n0_; have HO_7 := n1_; have HB := n2_; clear n0_ n1_ n2_; (try clear hb); (try clear hb2); (try clear hk); (try clear hi)))
       go_roundg k2
       case measure => have := HK1.out; have := HK2.out; omega
       case rel => exact ⟨(wrap64 (x10_2 + 1)), (by first | rfl | (simp; done) | (simp [*]; done)), H', ⟨by have := HK1.out; have := HK2.out; omega⟩, ⟨by (with_reducible repeat (first | apply Kd.R_alloc | apply Kd.R_drewN | apply Kd.R_drew)); exact HO_4.out⟩, ⟨by (with_reducible repeat (first | apply Kd.R_alloc | apply Kd.R_drewN | apply Kd.R_drew)); exact HO_7.out⟩, ⟨by repeat (first | (with_reducible first | exact HB.out | apply below_alloc | apply pw_below_drewN | apply below_drew1) | exact HB.out)⟩⟩
      rw [if_neg c133] at H
      have c133b0 : (x10_2 == 10) = false := beq_eq_false_iff_ne.mpr c133
      have c133b1 : (x10_2 != 10) = true := bne_iff_ne.mpr c133
      by_cases c137 : x10_2 = 12
      rotate_left
      ·rw [if_neg c137] at H
       have c137b0 : (x10_2 == 12) = false := beq_eq_false_iff_ne.mpr c137
       have c137b1 : (x10_2 != 12) = true := bne_iff_ne.mpr c137
       by_cases c141 : (t708 != (x10_2 == 13)) = true
       ·rw [if_pos c141] at H
        have c141b0 : (t708 != (x10_2 == 13)) = true := c141
        (try (have c141b1 : decide (t708 = (x10_2 == 13)) = false := by simpa using c141))
        (try (have c141b2 : (t708 == (x10_2 == 13)) = false := by simpa using c141))
        (try (have c141b3 : ¬ (t708 = (x10_2 == 13)) := by simpa using c141))
        clear c141
        obtain rfl := Option.some.inj H
        go_wp2_with (first | ((with_reducible refine gate_callee (f := 11) rfl ?_); refine goesL_ (some 78) rfl rfl Try.func11 (by kernel_rfl) rfl #[.int .i64 x10_2] rfl (by (try simp only [List.map_toArray, List.map_cons, List.map_nil]); first | done | rfl | (simp only [List.length_drop, List.length_take]; rfl)) ?_; (with_reducible refine (teletex_Has.calls x10_2 t708 _ A123.out).mono ?_); rintro e w142 ⟨rfl, hb⟩; refine ⟨_, rfl, ?_⟩; have n0_ := Aside0.mk (Kd.R_below (by (with_reducible repeat (first | apply Kd.R_alloc | apply Kd.R_drewN | apply Kd.R_drew)); exact HO_4.out) hb); have n1_ := Aside0.mk (Kd.R_below (by (with_reducible repeat (first | apply Kd.R_alloc | apply Kd.R_drewN | apply Kd.R_drew)); exact HO_7.out) hb); have n2_ := Aside0.mk (below_step (by repeat (first | (with_reducible first | exact HB.out | apply below_alloc | apply pw_below_drewN | apply below_drew1) | exact HB.out)) hb); clear HO_4; clear HO_7; clear HB; have HO_4 := n0_; have HO_7 := n1_; have HB := n2_; clear n0_ n1_ n2_; (try clear hb); (try clear hb2); (try clear hk); (try clear hi)))
        go_ret
        exact ⟨by first | rfl | (simp [errW_none, errW_some] <;> rfl) | (simp [*, errW_none, errW_some] <;> rfl), by repeat (first | (with_reducible first | exact HB.out | apply below_alloc | apply pw_below_drewN | apply below_drew1) | exact HB.out)⟩
       rw [if_neg c141] at H
       have c141b0 : (t708 != (x10_2 == 13)) = false := by simpa using c141
       (try (have c141b1 : decide (t708 = (x10_2 == 13)) = true := by simpa using c141))
       (try (have c141b2 : (t708 == (x10_2 == 13)) = true := by simpa using c141))
       clear c141
       have H' := Aside0.mk H
       clear H
       go_wp2_with (first | ((with_reducible refine gate_callee (f := 11) rfl ?_); refine goesL_ (some 78) rfl rfl Try.func11 (by kernel_rfl) rfl #[.int .i64 x10_2] rfl (by (try simp only [List.map_toArray, List.map_cons, List.map_nil]); first | done | rfl | (simp only [List.length_drop, List.length_take]; rfl)) ?_; (with_reducible refine (teletex_Has.calls x10_2 t708 _ A123.out).mono ?_); rintro e w143 ⟨rfl, hb⟩; refine ⟨_, rfl, ?_⟩; have n0_ := Aside0.mk (Kd.R_below (by (with_reducible repeat (first | apply Kd.R_alloc | apply Kd.R_drewN | apply Kd.R_drew)); exact HO_4.out) hb); have n1_ := Aside0.mk (Kd.R_below (by (with_reducible repeat (first | apply Kd.R_alloc | apply Kd.R_drewN | apply Kd.R_drew)); exact HO_7.out) hb); have n2_ := Aside0.mk (below_step (by repeat (first | (with_reducible first | exact HB.out | apply below_alloc | apply pw_below_drewN | apply below_drew1) | exact HB.out)) hb); clear HO_4; clear HO_7; clear HB; have HO_4 := n0_; have HO_7 := n1_; have HB := n2_; clear n0_ n1_ n2_; (try clear hb); (try clear hb2); (try clear hk); (try clear hi)))
       go_roundg k2
       case measure => have := HK1.out; have := HK2.out; omega
       case rel => exact ⟨(wrap64 (x10_2 + 1)), (by first | rfl | (simp; done) | (simp [*]; done)), H', ⟨by have := HK1.out; have := HK2.out; omega⟩, ⟨by (with_reducible repeat (first | apply Kd.R_alloc | apply Kd.R_drewN | apply Kd.R_drew)); exact HO_4.out⟩, ⟨by (with_reducible repeat (first | apply Kd.R_alloc | apply Kd.R_drewN | apply Kd.R_drew)); exact HO_7.out⟩, ⟨by repeat (first | (with_reducible first | exact HB.out | apply below_alloc | apply pw_below_drewN | apply below_drew1) | exact HB.out)⟩⟩
      rw [if_pos c137] at H
      have c137b0 : (x10_2 == 12) = true := beq_iff_eq.mpr c137
      have c137b1 : (x10_2 != 12) = false := bne_eq_false_iff_eq.mpr c137
      clear c137
      by_cases c138 : (t708 != true) = true
      ·rw [if_pos c138] at H
       have c138b0 : (t708 != true) = true := c138
       (try (have c138b1 : decide (t708 = true) = false := by simpa using c138))
       (try (have c138b2 : (t708 == true) = false := by simpa using c138))
       (try (have c138b3 : ¬ (t708 = true) := by simpa using c138))
       clear c138
       obtain rfl := Option.some.inj H
       go_wp2_with (first | ((with_reducible refine gate_callee (f := 11) rfl ?_); refine goesL_ (some 78) rfl rfl Try.func11 (by kernel_rfl) rfl #[.int .i64 x10_2] rfl (by (try simp only [List.map_toArray, List.map_cons, List.map_nil]); first | done | rfl | (simp only [List.length_drop, List.length_take]; rfl)) ?_; (with_reducible refine (teletex_Has.calls x10_2 t708 _ A123.out).mono ?_); rintro e w139 ⟨rfl, hb⟩; refine ⟨_, rfl, ?_⟩; have n0_ := Aside0.mk (Kd.R_below (by (with_reducible repeat (first | apply Kd.R_alloc | apply Kd.R_drewN | apply Kd.R_drew)); exact HO_4.out) hb); have n1_ := Aside0.mk (Kd.R_below (by (with_reducible repeat (first | apply Kd.R_alloc | apply Kd.R_drewN | apply Kd.R_drew)); exact HO_7.out) hb); have n2_ := Aside0.mk (below_step (by repeat (first | (with_reducible first | exact HB.out | apply below_alloc | apply pw_below_drewN | apply below_drew1) | exact HB.out)) hb); clear HO_4; clear HO_7; clear HB; have HO_4 := n0_; have HO_7 := n1_; have HB := n2_; clear n0_ n1_ n2_; (try clear hb); (try clear hb2); (try clear hk); (try clear hi)))
       go_ret
       exact ⟨by first | rfl | (simp [errW_none, errW_some] <;> rfl) | (simp [*, errW_none, errW_some] <;> rfl), by repeat (first | (with_reducible first | exact HB.out | apply below_alloc | apply pw_below_drewN | apply below_drew1) | exact HB.out)⟩
      rw [if_neg c138] at H
      have c138b0 : (t708 != true) = false := by simpa using c138
      (try (have c138b1 : decide (t708 = true) = true := by simpa using c138))
      (try (have c138b2 : (t708 == true) = true := by simpa using c138))
      clear c138
      have H' := Aside0.mk H
      clear H
      go_wp2_with (first | ((with_reducible refine gate_callee (f := 11) rfl ?_); refine goesL_ (some 78) rfl rfl Try.func11 (by kernel_rfl) rfl #[.int .i64 x10_2] rfl (by (try simp only [List.map_toArray, List.map_cons, List.map_nil]); first | done | rfl | (simp only [List.length_drop, List.length_take]; rfl)) ?_; (with_reducible refine (teletex_Has.calls x10_2 t708 _ A123.out).mono ?_); rintro e w140 ⟨rfl, hb⟩; refine ⟨_, rfl, ?_⟩; have n0_ := Aside0.mk (Kd.R_below (by (with_reducible repeat (first | apply Kd.R_alloc | apply Kd.R_drewN | apply Kd.R_drew)); exact HO_4.out) hb); have n1_ := Aside0.mk (Kd.R_below (by (with_reducible repeat (first | apply Kd.R_alloc | apply Kd.R_drewN | apply Kd.R_drew)); exact HO_7.out) hb); have n2_ := Aside0.mk (below_step (by repeat (first | (with_reducible first | exact HB.out | apply below_alloc | apply pw_below_drewN | apply below_drew1) | exact HB.out)) hb); clear HO_4; clear HO_7; clear HB; have HO_4 := n0_; have HO_7 := n1_; have HB := n2_; clear n0_ n1_ n2_; (try clear hb); (try clear hb2); (try clear hk); (try clear hi)))
      go_roundg k2
      case measure => have := HK1.out; have := HK2.out; omega
      case rel => exact ⟨(wrap64 (x10_2 + 1)), (by first | rfl | (simp; done) | (simp [*]; done)), H', ⟨by have := HK1.out; have := HK2.out; omega⟩, ⟨by (with_reducible repeat (first | apply Kd.R_alloc | apply Kd.R_drewN | apply Kd.R_drew)); exact HO_4.out⟩, ⟨by (with_reducible repeat (first | apply Kd.R_alloc | apply Kd.R_drewN | apply Kd.R_drew)); exact HO_7.out⟩, ⟨by repeat (first | (with_reducible first | exact HB.out | apply below_alloc | apply pw_below_drewN | apply below_drew1) | exact HB.out)⟩⟩
   rw [if_pos c3] at H
   have c3b0 : decide (x5_1 < (l0.length : Int)) = true := decide_eq_true c3
   clear c3
   by_cases c4 : 0 ≤ x5_1
   rotate_left
   ·rw [if_neg c4] at H
    exact absurd H (by simp)
   rw [if_pos c4] at H
   have c4b0 : decide (0 ≤ x5_1) = true := decide_eq_true c4
   clear c4
   by_cases c5 : (wrap64 (32 + (wrap64 (Int.tmod (IntKind.u64.wrap (rd l0 x5_1)) 91)))) ≥ 33
   rotate_left
   ·rw [if_neg c5] at H
    have c5b0 : decide (33 ≤ (wrap64 (32 + (wrap64 (Int.tmod (IntKind.u64.wrap (rd l0 x5_1)) 91))))) = false := decide_eq_false c5
    clear c5
    by_cases c65 : (wrap64 (32 + (wrap64 (Int.tmod (IntKind.u64.wrap (rd l0 x5_1)) 91)))) ≥ 58
    rotate_left
    ·rw [if_neg c65] at H
     have c65b0 : decide (58 ≤ (wrap64 (32 + (wrap64 (Int.tmod (IntKind.u64.wrap (rd l0 x5_1)) 91))))) = false := decide_eq_false c65
     clear c65
     by_cases c95 : (wrap64 (32 + (wrap64 (Int.tmod (IntKind.u64.wrap (rd l0 x5_1)) 91)))) = 92
     ·rw [if_pos c95] at H
      have c95b0 : ((wrap64 (32 + (wrap64 (Int.tmod (IntKind.u64.wrap (rd l0 x5_1)) 91)))) == 92) = true := beq_iff_eq.mpr c95
      have c95b1 : ((wrap64 (32 + (wrap64 (Int.tmod (IntKind.u64.wrap (rd l0 x5_1)) 91)))) != 92) = false := bne_eq_false_iff_eq.mpr c95
      clear c95
      by_cases c96 : x3_1.length < 17592186044416
      rotate_left
      ·rw [if_neg c96] at H
       exact absurd H (by simp)
      rw [if_pos c96] at H
      have LMc96 := Aside0.mk c96
      clear c96
      obtain ⟨y673, hy673⟩ : ∃ y_ : List Int, y_ = (x3_1 ++ [97]) := ⟨_, rfl⟩
      replace H : (if x4_1.length < 140737488355328 then (sobriquetlaw18_TeletexPlain.l0 k1 l0 y673 (x4_1 ++ [97]) (wrap64 (x5_1 + 1))) else (none)) = some r := by first | (rw [hy673]; with_reducible exact H) | (have H2_ := (Option.bind_some _ _).symm.trans H; rw [hy673]; with_reducible exact H2_) | (have H2_ := (Option.bind_some _ _).symm.trans H; with_reducible exact H2_) | with_reducible exact H | (rw [hy673]; exact H) | exact H
      have Ny673 := Aside0.mk hy673
      clear hy673
      by_cases c97 : x4_1.length < 140737488355328
      rotate_left
      ·rw [if_neg c97] at H
       exact absurd H (by simp)
      rw [if_pos c97] at H
      have LMc97 := Aside0.mk c97
      clear c97
      obtain ⟨y676, hy676⟩ : ∃ y_ : List Int, y_ = (x4_1 ++ [97]) := ⟨_, rfl⟩
      replace H : (sobriquetlaw18_TeletexPlain.l0 k1 l0 y673 y676 (wrap64 (x5_1 + 1))) = some r := by first | (rw [hy676]; with_reducible exact H) | (have H2_ := (Option.bind_some _ _).symm.trans H; rw [hy676]; with_reducible exact H2_) | (have H2_ := (Option.bind_some _ _).symm.trans H; with_reducible exact H2_) | with_reducible exact H | (rw [hy676]; exact H) | exact H
      have Ny676 := Aside0.mk hy676
      clear hy676
      have H' := Aside0.mk H
      clear H
      have p564 : 0 ≤ (x5_1 : Int) := of_decide_eq_true (by first | (with_reducible assumption) | assumption)
      have q564 : x5_1 < (l0.length : Int) := of_decide_eq_true (by first | (with_reducible assumption) | assumption)
      obtain ⟨ad564, e564, hx564_0⟩ := Kd.at_int HR0.out x5_1 p564 q564
      cases e564
      replace hx564_0 := (HB.out.cell (World.block_lt_of_cell? w _ hx564_0)).trans hx564_0
      replace p564 := eq_true p564
      replace q564 := eq_true q564
      go_wp2_with (first | ((with_reducible refine gate_builtin (b := .append) (xs := #[.tmp 58, .tmp 60]) rfl ?_); at_builtin; refine Kd.R_append (Kd.int .i64) (w0 := w) w.heap.size rfl (.tmp 58) (.tmp 60) 22 3 (.int .i64 0) 8 rfl Try.underlying22 info3 rfl (by decide) (by omega) u3 x3_1 97 [.int .i64 97] (fun _ => True) (fun _ => False) rfl rfl ?aP (fun _ hk => hk.elim) ?aF ?aO ?aB ?aS ?aL ?_; (case aP => exact rfl); (case aB => exact (by repeat (first | (with_reducible first | exact HB.out | apply below_alloc | apply pw_below_drewN | apply below_drew1) | exact HB.out))); (case aF => exact (fun _ _ => trivial)); (case aO => exact (by (with_reducible repeat (first | apply Kd.R_alloc | apply Kd.R_drewN | apply Kd.R_drew)); exact HO_3.out)); (case aS => exact (below_size (by repeat (first | (with_reducible first | exact HB.out | apply below_alloc | apply pw_below_drewN | apply below_drew1) | exact HB.out)))); (case aL => have := LMc96.out; omega); intro v674 w98 ho hb hg hat; rw [← Ny673.out] at ho; have n0_ := Aside0.mk (Kd.R_over' (by (with_reducible repeat (first | apply Kd.R_alloc | apply Kd.R_drewN | apply Kd.R_drew)); exact HO_4.out) (Kd.R_typed (by (with_reducible repeat (first | apply Kd.R_alloc | apply Kd.R_drewN | apply Kd.R_drew)); exact HO_3.out)) (by decide) hg); have n1_ := Aside0.mk (hb); have n2_ := Aside0.mk (ho); clear HO_4; clear HB; clear HO_3; have HO_4 := n0_; have HB := n1_; have HO675 := n2_; clear n0_ n1_ n2_; clear ho hb hg hat) | ((with_reducible refine gate_builtin (b := .append) (xs := #[.tmp 62, .tmp 65]) rfl ?_); at_builtin; refine Kd.R_append (Kd.int .u8) (w0 := w) w.heap.size rfl (.tmp 62) (.tmp 65) 23 5 (.int .u8 0) 1 rfl Try.underlying23 info5 rfl (by decide) (by omega) u4 x4_1 97 [.int .u8 97] (fun _ => True) (fun _ => False) rfl rfl ?aP (fun _ hk => hk.elim) ?aF ?aO ?aB ?aS ?aL ?_; (case aP => exact rfl); (case aB => exact (by repeat (first | (with_reducible first | exact HB.out | apply below_alloc | apply pw_below_drewN | apply below_drew1) | exact HB.out))); (case aF => exact (fun _ _ => trivial)); (case aO => exact (by (with_reducible repeat (first | apply Kd.R_alloc | apply Kd.R_drewN | apply Kd.R_drew)); exact HO_4.out)); (case aS => exact (below_size (by repeat (first | (with_reducible first | exact HB.out | apply below_alloc | apply pw_below_drewN | apply below_drew1) | exact HB.out)))); (case aL => have := LMc97.out; omega); intro v677 w99 ho hb hg hat; rw [← Ny676.out] at ho; have n0_ := Aside0.mk (Kd.R_over' (by (with_reducible repeat (first | apply Kd.R_alloc | apply Kd.R_drewN | apply Kd.R_drew)); exact HO675.out) (Kd.R_typed (by (with_reducible repeat (first | apply Kd.R_alloc | apply Kd.R_drewN | apply Kd.R_drew)); exact HO_4.out)) (by decide) hg); have n1_ := Aside0.mk (hb); have n2_ := Aside0.mk (ho); clear HO675; clear HB; clear HO_4; have HO675 := n0_; have HB := n1_; have HO678 := n2_; clear n0_ n1_ n2_; clear ho hb hg hat))
      go_roundg k1
      case measure => have := HK1.out; omega
      case rel => exact ⟨(y673), (y676), (wrap64 (x5_1 + 1)), (by first | rfl | (simp; done) | (simp [*]; done)), H', ⟨by have := HK1.out; omega⟩, ⟨by (with_reducible repeat (first | apply Kd.R_alloc | apply Kd.R_drewN | apply Kd.R_drew)); exact HO675.out⟩, ⟨by (with_reducible repeat (first | apply Kd.R_alloc | apply Kd.R_drewN | apply Kd.R_drew)); exact HO678.out⟩, ⟨by repeat (first | (with_reducible first | exact HB.out | apply below_alloc | apply pw_below_drewN | apply below_drew1) | exact HB.out)⟩⟩
     rw [if_neg c95] at H
     have c95b0 : ((wrap64 (32 + (wrap64 (Int.tmod (IntKind.u64.wrap (rd l0 x5_1)) 91)))) == 92) = false := beq_eq_false_iff_ne.mpr c95
     have c95b1 : ((wrap64 (32 + (wrap64 (Int.tmod (IntKind.u64.wrap (rd l0 x5_1)) 91)))) != 92) = true := bne_iff_ne.mpr c95
     by_cases c100 : (wrap64 (32 + (wrap64 (Int.tmod (IntKind.u64.wrap (rd l0 x5_1)) 91)))) = 94
     ·rw [if_pos c100] at H
      have c100b0 : ((wrap64 (32 + (wrap64 (Int.tmod (IntKind.u64.wrap (rd l0 x5_1)) 91)))) == 94) = true := beq_iff_eq.mpr c100
      have c100b1 : ((wrap64 (32 + (wrap64 (Int.tmod (IntKind.u64.wrap (rd l0 x5_1)) 91)))) != 94) = false := bne_eq_false_iff_eq.mpr c100
      clear c100
      by_cases c101 : x3_1.length < 17592186044416
      rotate_left
      ·rw [if_neg c101] at H
       exact absurd H (by simp)
      rw [if_pos c101] at H
      have LMc101 := Aside0.mk c101
      clear c101
      obtain ⟨y679, hy679⟩ : ∃ y_ : List Int, y_ = (x3_1 ++ [97]) := ⟨_, rfl⟩
      replace H : (if x4_1.length < 140737488355328 then (sobriquetlaw18_TeletexPlain.l0 k1 l0 y679 (x4_1 ++ [97]) (wrap64 (x5_1 + 1))) else (none)) = some r := by first | (rw [hy679]; with_reducible exact H) | (have H2_ := (Option.bind_some _ _).symm.trans H; rw [hy679]; with_reducible exact H2_) | (have H2_ := (Option.bind_some _ _).symm.trans H; with_reducible exact H2_) | with_reducible exact H | (rw [hy679]; exact H) | exact H
      have Ny679 := Aside0.mk hy679
      clear hy679
      by_cases c102 : x4_1.length < 140737488355328
      rotate_left
      ·rw [if_neg c102] at H
       exact absurd H (by simp)
      rw [if_pos c102] at H
      have LMc102 := Aside0.mk c102
      clear c102
      obtain ⟨y682, hy682⟩ : ∃ y_ : List Int, y_ = (x4_1 ++ [97]) := ⟨_, rfl⟩
      replace H : (sobriquetlaw18_TeletexPlain.l0 k1 l0 y679 y682 (wrap64 (x5_1 + 1))) = some r := by first | (rw [hy682]; with_reducible exact H) | (have H2_ := (Option.bind_some _ _).symm.trans H; rw [hy682]; with_reducible exact H2_) | (have H2_ := (Option.bind_some _ _).symm.trans H; with_reducible exact H2_) | with_reducible exact H | (rw [hy682]; exact H) | exact H
      have Ny682 := Aside0.mk hy682
      clear hy682
      have H' := Aside0.mk H
      clear H
      have p564 : 0 ≤ (x5_1 : Int) := of_decide_eq_true (by first | (with_reducible assumption) | assumption)
      have q564 : x5_1 < (l0.length : Int) := of_decide_eq_true (by first | (with_reducible assumption) | assumption)
      obtain ⟨ad564, e564, hx564_0⟩ := Kd.at_int HR0.out x5_1 p564 q564
      cases e564
      replace hx564_0 := (HB.out.cell (World.block_lt_of_cell? w _ hx564_0)).trans hx564_0
      replace p564 := eq_true p564
      replace q564 := eq_true q564
      go_wp2_with (first | ((with_reducible refine gate_builtin (b := .append) (xs := #[.tmp 58, .tmp 60]) rfl ?_); at_builtin; refine Kd.R_append (Kd.int .i64) (w0 := w) w.heap.size rfl (.tmp 58) (.tmp 60) 22 3 (.int .i64 0) 8 rfl Try.underlying22 info3 rfl (by decide) (by omega) u3 x3_1 97 [.int .i64 97] (fun _ => True) (fun _ => False) rfl rfl ?aP (fun _ hk => hk.elim) ?aF ?aO ?aB ?aS ?aL ?_; (case aP => exact rfl); (case aB => exact (by repeat (first | (with_reducible first | exact HB.out | apply below_alloc | apply pw_below_drewN | apply below_drew1) | exact HB.out))); (case aF => exact (fun _ _ => trivial)); (case aO => exact (by (with_reducible repeat (first | apply Kd.R_alloc | apply Kd.R_drewN | apply Kd.R_drew)); exact HO_3.out)); (case aS => exact (below_size (by repeat (first | (with_reducible first | exact HB.out | apply below_alloc | apply pw_below_drewN | apply below_drew1) | exact HB.out)))); (case aL => have := LMc101.out; omega); intro v680 w103 ho hb hg hat; rw [← Ny679.out] at ho; have n0_ := Aside0.mk (Kd.R_over' (by (with_reducible repeat (first | apply Kd.R_alloc | apply Kd.R_drewN | apply Kd.R_drew)); exact HO_4.out) (Kd.R_typed (by (with_reducible repeat (first | apply Kd.R_alloc | apply Kd.R_drewN | apply Kd.R_drew)); exact HO_3.out)) (by decide) hg); have n1_ := Aside0.mk (hb); have n2_ := Aside0.mk (ho); clear HO_4; clear HB; clear HO_3; have HO_4 := n0_; have HB := n1_; have HO681 := n2_; clear n0_ n1_ n2_; clear ho hb hg hat) | ((with_reducible refine gate_builtin (b := .append) (xs := #[.tmp 62, .tmp 65]) rfl ?_); at_builtin; refine Kd.R_append (Kd.int .u8) (w0 := w) w.heap.size rfl (.tmp 62) (.tmp 65) 23 5 (.int .u8 0) 1 rfl Try.underlying23 info5 rfl (by decide) (by omega) u4 x4_1 97 [.int .u8 97] (fun _ => True) (fun _ => False) rfl rfl ?aP (fun _ hk => hk.elim) ?aF ?aO ?aB ?aS ?aL ?_; (case aP => exact rfl); (case aB => exact (by repeat (first | (with_reducible first | exact HB.out | apply below_alloc | apply pw_below_drewN | apply below_drew1) | exact HB.out))); (case aF => exact (fun _ _ => trivial)); (case aO => exact (by (with_reducible repeat (first | apply Kd.R_alloc | apply Kd.R_drewN | apply Kd.R_drew)); exact HO_4.out)); (case aS => exact (below_size (by repeat (first | (with_reducible first | exact HB.out | apply below_alloc | apply pw_below_drewN | apply below_drew1) | exact HB.out)))); (case aL => have := LMc102.out; omega); intro v683 w104 ho hb hg hat; rw [← Ny682.out] at ho; have n0_ := Aside0.mk (Kd.R_over' (by (with_reducible repeat (first | apply Kd.R_alloc | apply Kd.R_drewN | apply Kd.R_drew)); exact HO681.out) (Kd.R_typed (by (with_reducible repeat (first | apply Kd.R_alloc | apply Kd.R_drewN | apply Kd.R_drew)); exact HO_4.out)) (by decide) hg); have n1_ := Aside0.mk (hb); have n2_ := Aside0.mk (ho); clear HO681; clear HB; clear HO_4; have HO681 := n0_; have HB := n1_; have HO684 := n2_; clear n0_ n1_ n2_; clear ho hb hg hat))
      go_roundg k1
      case measure => have := HK1.out; omega
      case rel => exact ⟨(y679), (y682), (wrap64 (x5_1 + 1)), (by first | rfl | (simp; done) | (simp [*]; done)), H', ⟨by have := HK1.out; omega⟩, ⟨by (with_reducible repeat (first | apply Kd.R_alloc | apply Kd.R_drewN | apply Kd.R_drew)); exact HO681.out⟩, ⟨by (with_reducible repeat (first | apply Kd.R_alloc | apply Kd.R_drewN | apply Kd.R_drew)); exact HO684.out⟩, ⟨by repeat (first | (with_reducible first | exact HB.out | apply below_alloc | apply pw_below_drewN | apply below_drew1) | exact HB.out)⟩⟩
     rw [if_neg c100] at H
     have c100b0 : ((wrap64 (32 + (wrap64 (Int.tmod (IntKind.u64.wrap (rd l0 x5_1)) 91)))) == 94) = false := beq_eq_false_iff_ne.mpr c100
     have c100b1 : ((wrap64 (32 + (wrap64 (Int.tmod (IntKind.u64.wrap (rd l0 x5_1)) 91)))) != 94) = true := bne_iff_ne.mpr c100
     by_cases c105 : (wrap64 (32 + (wrap64 (Int.tmod (IntKind.u64.wrap (rd l0 x5_1)) 91)))) = 96
     ·rw [if_pos c105] at H
      have c105b0 : ((wrap64 (32 + (wrap64 (Int.tmod (IntKind.u64.wrap (rd l0 x5_1)) 91)))) == 96) = true := beq_iff_eq.mpr c105
      have c105b1 : ((wrap64 (32 + (wrap64 (Int.tmod (IntKind.u64.wrap (rd l0 x5_1)) 91)))) != 96) = false := bne_eq_false_iff_eq.mpr c105
      clear c105
      by_cases c106 : x3_1.length < 17592186044416
      rotate_left
      ·rw [if_neg c106] at H
       exact absurd H (by simp)
      rw [if_pos c106] at H
      have LMc106 := Aside0.mk c106
      clear c106
      obtain ⟨y685, hy685⟩ : ∃ y_ : List Int, y_ = (x3_1 ++ [97]) := ⟨_, rfl⟩
      replace H : (if x4_1.length < 140737488355328 then (sobriquetlaw18_TeletexPlain.l0 k1 l0 y685 (x4_1 ++ [97]) (wrap64 (x5_1 + 1))) else (none)) = some r := by first | (rw [hy685]; with_reducible exact H) | (have H2_ := (Option.bind_some _ _).symm.trans H; rw [hy685]; with_reducible exact H2_) | (have H2_ := (Option.bind_some _ _).symm.trans H; with_reducible exact H2_) | with_reducible exact H | (rw [hy685]; exact H) | exact H
      have Ny685 := Aside0.mk hy685
      clear hy685
      by_cases c107 : x4_1.length < 140737488355328
      rotate_left
      ·rw [if_neg c107] at H
       exact absurd H (by simp)
      rw [if_pos c107] at H
      have LMc107 := Aside0.mk c107
      clear c107
      obtain ⟨y688, hy688⟩ : ∃ y_ : List Int, y_ = (x4_1 ++ [97]) := ⟨_, rfl⟩
      replace H : (sobriquetlaw18_TeletexPlain.l0 k1 l0 y685 y688 (wrap64 (x5_1 + 1))) = some r := by first | (rw [hy688]; with_reducible exact H) | (have H2_ := (Option.bind_some _ _).symm.trans H; rw [hy688]; with_reducible exact H2_) | (have H2_ := (Option.bind_some _ _).symm.trans H; with_reducible exact H2_) | with_reducible exact H | (rw [hy688]; exact H) | exact H
      have Ny688 := Aside0.mk hy688
      clear hy688
      have H' := Aside0.mk H
      clear H
      have p564 : 0 ≤ (x5_1 : Int) := of_decide_eq_true (by first | (with_reducible assumption) | assumption)
      have q564 : x5_1 < (l0.length : Int) := of_decide_eq_true (by first | (with_reducible assumption) | assumption)
      obtain ⟨ad564, e564, hx564_0⟩ := Kd.at_int HR0.out x5_1 p564 q564
      cases e564
      replace hx564_0 := (HB.out.cell (World.block_lt_of_cell? w _ hx564_0)).trans hx564_0
      replace p564 := eq_true p564
      replace q564 := eq_true q564
      go_wp2_with (first | ((with_reducible refine gate_builtin (b := .append) (xs := #[.tmp 58, .tmp 60]) rfl ?_); at_builtin; refine Kd.R_append (Kd.int .i64) (w0 := w) w.heap.size rfl (.tmp 58) (.tmp 60) 22 3 (.int .i64 0) 8 rfl Try.underlying22 info3 rfl (by decide) (by omega) u3 x3_1 97 [.int .i64 97] (fun _ => True) (fun _ => False) rfl rfl ?aP (fun _ hk => hk.elim) ?aF ?aO ?aB ?aS ?aL ?_; (case aP => exact rfl); (case aB => exact (by repeat (first | (with_reducible first | exact HB.out | apply below_alloc | apply pw_below_drewN | apply below_drew1) | exact HB.out))); (case aF => exact (fun _ _ => trivial)); (case aO => exact (by (with_reducible repeat (first | apply Kd.R_alloc | apply Kd.R_drewN | apply Kd.R_drew)); exact HO_3.out)); (case aS => exact (below_size (by repeat (first | (with_reducible first | exact HB.out | apply below_alloc | apply pw_below_drewN | apply below_drew1) | exact HB.out)))); (case aL => have := LMc106.out; omega); intro v686 w108 ho hb hg hat; rw [← Ny685.out] at ho; have n0_ := Aside0.mk (Kd.R_over' (by (with_reducible repeat (first | apply Kd.R_alloc | apply Kd.R_drewN | apply Kd.R_drew)); exact HO_4.out) (Kd.R_typed (by (with_reducible repeat (first | apply Kd.R_alloc | apply Kd.R_drewN | apply Kd.R_drew)); exact HO_3.out)) (by decide) hg); have n1_ := Aside0.mk (hb); have n2_ := Aside0.mk (ho); clear HO_4; clear HB; clear HO_3; have HO_4 := n0_; have HB := n1_; have HO687 := n2_; clear n0_ n1_ n2_; clear ho hb hg hat) | ((with_reducible refine gate_builtin (b := .append) (xs := #[.tmp 62, .tmp 65]) rfl ?_); at_builtin; refine Kd.R_append (Kd.int .u8) (w0 := w) w.heap.size rfl (.tmp 62) (.tmp 65) 23 5 (.int .u8 0) 1 rfl Try.underlying23 info5 rfl (by decide) (by omega) u4 x4_1 97 [.int .u8 97] (fun _ => True) (fun _ => False) rfl rfl ?aP (fun _ hk => hk.elim) ?aF ?aO ?aB ?aS ?aL ?_; (case aP => exact rfl); (case aB => exact (by repeat (first | (with_reducible first | exact HB.out | apply below_alloc | apply pw_below_drewN | apply below_drew1) | exact HB.out))); (case aF => exact (fun _ _ => trivial)); (case aO => exact (by (with_reducible repeat (first | apply Kd.R_alloc | apply Kd.R_drewN | apply Kd.R_drew)); exact HO_4.out)); (case aS => exact (below_size (by repeat (first | (with_reducible first | exact HB.out | apply below_alloc | apply pw_below_drewN | apply below_drew1) | exact HB.out)))); (case aL => have := LMc107.out; omega); intro v689 w109 ho hb hg hat; rw [← Ny688.out] at ho; have n0_ := Aside0.mk (Kd.R_over' (by (with_reducible repeat (first | apply Kd.R_alloc | apply Kd.R_drewN | apply Kd.R_drew)); exact HO687.out) (Kd.R_typed (by (with_reducible repeat (first | apply Kd.R_alloc | apply Kd.R_drewN | apply Kd.R_drew)); exact HO_4.out)) (by decide) hg); have n1_ := Aside0.mk (hb); have n2_ := Aside0.mk (ho); clear HO687; clear HB; clear HO_4; have HO687 := n0_; have HB := n1_; have HO690 := n2_; clear n0_ n1_ n2_; clear ho hb hg hat))
      go_roundg k1
      case measure => have := HK1.out; omega
      case rel => exact ⟨(y685), (y688), (wrap64 (x5_1 + 1)), (by first | rfl | (simp; done) | (simp [*]; done)), H', ⟨by have := HK1.out; omega⟩, ⟨by (with_reducible repeat (first | apply Kd.R_alloc | apply Kd.R_drewN | apply Kd.R_drew)); exact HO687.out⟩, ⟨by (with_reducible repeat (first | apply Kd.R_alloc | apply Kd.R_drewN | apply Kd.R_drew)); exact HO690.out⟩, ⟨by repeat (first | (with_reducible first | exact HB.out | apply below_alloc | apply pw_below_drewN | apply below_drew1) | exact HB.out)⟩⟩
     rw [if_neg c105] at H
     have c105b0 : ((wrap64 (32 + (wrap64 (Int.tmod (IntKind.u64.wrap (rd l0 x5_1)) 91)))) == 96) = false := beq_eq_false_iff_ne.mpr c105
     have c105b1 : ((wrap64 (32 + (wrap64 (Int.tmod (IntKind.u64.wrap (rd l0 x5_1)) 91)))) != 96) = true := bne_iff_ne.mpr c105
     by_cases c110 : (wrap64 (32 + (wrap64 (Int.tmod (IntKind.u64.wrap (rd l0 x5_1)) 91)))) > 122
     ·rw [if_pos c110] at H
      have c110b0 : decide (122 < (wrap64 (32 + (wrap64 (Int.tmod (IntKind.u64.wrap (rd l0 x5_1)) 91))))) = true := decide_eq_true c110
      clear c110
      by_cases c111 : x3_1.length < 17592186044416
      rotate_left
      ·rw [if_neg c111] at H
       exact absurd H (by simp)
      rw [if_pos c111] at H
      have LMc111 := Aside0.mk c111
      clear c111
      obtain ⟨y691, hy691⟩ : ∃ y_ : List Int, y_ = (x3_1 ++ [97]) := ⟨_, rfl⟩
      replace H : (if x4_1.length < 140737488355328 then (sobriquetlaw18_TeletexPlain.l0 k1 l0 y691 (x4_1 ++ [97]) (wrap64 (x5_1 + 1))) else (none)) = some r := by first | (rw [hy691]; with_reducible exact H) | (have H2_ := (Option.bind_some _ _).symm.trans H; rw [hy691]; with_reducible exact H2_) | (have H2_ := (Option.bind_some _ _).symm.trans H; with_reducible exact H2_) | with_reducible exact H | (rw [hy691]; exact H) | exact H
      have Ny691 := Aside0.mk hy691
      clear hy691
      by_cases c112 : x4_1.length < 140737488355328
      rotate_left
      ·rw [if_neg c112] at H
       exact absurd H (by simp)
      rw [if_pos c112] at H
      have LMc112 := Aside0.mk c112
      clear c112
      obtain ⟨y694, hy694⟩ : ∃ y_ : List Int, y_ = (x4_1 ++ [97]) := ⟨_, rfl⟩
      replace H : (sobriquetlaw18_TeletexPlain.l0 k1 l0 y691 y694 (wrap64 (x5_1 + 1))) = some r := by first | (rw [hy694]; with_reducible exact H) | (have H2_ := (Option.bind_some _ _).symm.trans H; rw [hy694]; with_reducible exact H2_) | (have H2_ := (Option.bind_some _ _).symm.trans H; with_reducible exact H2_) | with_reducible exact H | (rw [hy694]; exact H) | exact H
      have Ny694 := Aside0.mk hy694
      clear hy694
      have H' := Aside0.mk H
      clear H
      have p564 : 0 ≤ (x5_1 : Int) := of_decide_eq_true (by first | (with_reducible assumption) | assumption)
      have q564 : x5_1 < (l0.length : Int) := of_decide_eq_true (by first | (with_reducible assumption) | assumption)
      obtain ⟨ad564, e564, hx564_0⟩ := Kd.at_int HR0.out x5_1 p564 q564
      cases e564
      replace hx564_0 := (HB.out.cell (World.block_lt_of_cell? w _ hx564_0)).trans hx564_0
      replace p564 := eq_true p564
      replace q564 := eq_true q564
      go_wp2_with (first | ((with_reducible refine gate_builtin (b := .append) (xs := #[.tmp 58, .tmp 60]) rfl ?_); at_builtin; refine Kd.R_append (Kd.int .i64) (w0 := w) w.heap.size rfl (.tmp 58) (.tmp 60) 22 3 (.int .i64 0) 8 rfl Try.underlying22 info3 rfl (by decide) (by omega) u3 x3_1 97 [.int .i64 97] (fun _ => True) (fun _ => False) rfl rfl ?aP (fun _ hk => hk.elim) ?aF ?aO ?aB ?aS ?aL ?_; (case aP => exact rfl); (case aB => exact (by repeat (first | (with_reducible first | exact HB.out | apply below_alloc | apply pw_below_drewN | apply below_drew1) | exact HB.out))); (case aF => exact (fun _ _ => trivial)); (case aO => exact (by (with_reducible repeat (first | apply Kd.R_alloc | apply Kd.R_drewN | apply Kd.R_drew)); exact HO_3.out)); (case aS => exact (below_size (by repeat (first | (with_reducible first | exact HB.out | apply below_alloc | apply pw_below_drewN | apply below_drew1) | exact HB.out)))); (case aL => have := LMc111.out; omega); intro v692 w113 ho hb hg hat; rw [← Ny691.out] at ho; have n0_ := Aside0.mk (Kd.R_over' (by (with_reducible repeat (first | apply Kd.R_alloc | apply Kd.R_drewN | apply Kd.R_drew)); exact HO_4.out) (Kd.R_typed (by (with_reducible repeat (first | apply Kd.R_alloc | apply Kd.R_drewN | apply Kd.R_drew)); exact HO_3.out)) (by decide) hg); have n1_ := Aside0.mk (hb); have n2_ := Aside0.mk (ho); clear HO_4; clear HB; clear HO_3; have HO_4 := n0_; have HB := n1_; have HO693 := n2_; clear n0_ n1_ n2_; clear ho hb hg hat) | ((with_reducible refine gate_builtin (b := .append) (xs := #[.tmp 62, .tmp 65]) rfl ?_); at_builtin; refine Kd.R_append (Kd.int .u8) (w0 := w) w.heap.size rfl (.tmp 62) (.tmp 65) 23 5 (.int .u8 0) 1 rfl Try.underlying23 info5 rfl (by decide) (by omega) u4 x4_1 97 [.int .u8 97] (fun _ => True) (fun _ => False) rfl rfl ?aP (fun _ hk => hk.elim) ?aF ?aO ?aB ?aS ?aL ?_; (case aP => exact rfl); (case aB => exact (by repeat (first | (with_reducible first | exact HB.out | apply below_alloc | apply pw_below_drewN | apply below_drew1) | exact HB.out))); (case aF => exact (fun _ _ => trivial)); (case aO => exact (by (with_reducible repeat (first | apply Kd.R_alloc | apply Kd.R_drewN | apply Kd.R_drew)); exact HO_4.out)); (case aS => exact (below_size (by repeat (first | (with_reducible first | exact HB.out | apply below_alloc | apply pw_below_drewN | apply below_drew1) | exact HB.out)))); (case aL => have := LMc112.out; omega); intro v695 w114 ho hb hg hat; rw [← Ny694.out] at ho; have n0_ := Aside0.mk (Kd.R_over' (by (with_reducible repeat (first | apply Kd.R_alloc | apply Kd.R_drewN | apply Kd.R_drew)); exact HO693.out) (Kd.R_typed (by (with_reducible repeat (first | apply Kd.R_alloc | apply Kd.R_drewN | apply Kd.R_drew)); exact HO_4.out)) (by decide) hg); have n1_ := Aside0.mk (hb); have n2_ := Aside0.mk (ho); clear HO693; clear HB; clear HO_4; have HO693 := n0_; have HB := n1_; have HO696 := n2_; clear n0_ n1_ n2_; clear ho hb hg hat))
      go_roundg k1
      case measure => have := HK1.out; omega
      case rel => exact ⟨(y691), (y694), (wrap64 (x5_1 + 1)), (by first | rfl | (simp; done) | (simp [*]; done)), H', ⟨by have := HK1.out; omega⟩, ⟨by (with_reducible repeat (first | apply Kd.R_alloc | apply Kd.R_drewN | apply Kd.R_drew)); exact HO693.out⟩, ⟨by (with_reducible repeat (first | apply Kd.R_alloc | apply Kd.R_drewN | apply Kd.R_drew)); exact HO696.out⟩, ⟨by repeat (first | (with_reducible first | exact HB.out | apply below_alloc | apply pw_below_drewN | apply below_drew1) | exact HB.out)⟩⟩
     rw [if_neg c110] at H
     have c110b0 : decide (122 < (wrap64 (32 + (wrap64 (Int.tmod (IntKind.u64.wrap (rd l0 x5_1)) 91))))) = false := decide_eq_false c110
     clear c110
     by_cases c115 : x3_1.length < 17592186044416
     rotate_left
     ·rw [if_neg c115] at H
      exact absurd H (by simp)
     rw [if_pos c115] at H
     have LMc115 := Aside0.mk c115
     clear c115
     obtain ⟨y697, hy697⟩ : ∃ y_ : List Int, y_ = (x3_1 ++ [wrap64 (32 + (wrap64 (Int.tmod (IntKind.u64.wrap (rd l0 x5_1)) 91)))]) := ⟨_, rfl⟩
     replace H : (if x4_1.length < 140737488355328 then (sobriquetlaw18_TeletexPlain.l0 k1 l0 y697 (x4_1 ++ [(wrap64 (32 + (wrap64 (Int.tmod (IntKind.u64.wrap (rd l0 x5_1)) 91)))) % 256]) (wrap64 (x5_1 + 1))) else (none)) = some r := by first | (rw [hy697]; with_reducible exact H) | (have H2_ := (Option.bind_some _ _).symm.trans H; rw [hy697]; with_reducible exact H2_) | (have H2_ := (Option.bind_some _ _).symm.trans H; with_reducible exact H2_) | with_reducible exact H | (rw [hy697]; exact H) | exact H
     have Ny697 := Aside0.mk hy697
     clear hy697
     by_cases c116 : x4_1.length < 140737488355328
     rotate_left
     ·rw [if_neg c116] at H
      exact absurd H (by simp)
     rw [if_pos c116] at H
     have LMc116 := Aside0.mk c116
     clear c116
     obtain ⟨y700, hy700⟩ : ∃ y_ : List Int, y_ = (x4_1 ++ [(wrap64 (32 + (wrap64 (Int.tmod (IntKind.u64.wrap (rd l0 x5_1)) 91)))) % 256]) := ⟨_, rfl⟩
     replace H : (sobriquetlaw18_TeletexPlain.l0 k1 l0 y697 y700 (wrap64 (x5_1 + 1))) = some r := by first | (rw [hy700]; with_reducible exact H) | (have H2_ := (Option.bind_some _ _).symm.trans H; rw [hy700]; with_reducible exact H2_) | (have H2_ := (Option.bind_some _ _).symm.trans H; with_reducible exact H2_) | with_reducible exact H | (rw [hy700]; exact H) | exact H
     have Ny700 := Aside0.mk hy700
     clear hy700
     have H' := Aside0.mk H
     clear H
     have p564 : 0 ≤ (x5_1 : Int) := of_decide_eq_true (by first | (with_reducible assumption) | assumption)
     have q564 : x5_1 < (l0.length : Int) := of_decide_eq_true (by first | (with_reducible assumption) | assumption)
     obtain ⟨ad564, e564, hx564_0⟩ := Kd.at_int HR0.out x5_1 p564 q564
     cases e564
     replace hx564_0 := (HB.out.cell (World.block_lt_of_cell? w _ hx564_0)).trans hx564_0
     replace p564 := eq_true p564
     replace q564 := eq_true q564
     go_wp2_with (first | ((with_reducible refine gate_builtin (b := .append) (xs := #[.tmp 58, .tmp 60]) rfl ?_); at_builtin; refine Kd.R_append (Kd.int .i64) (w0 := w) w.heap.size rfl (.tmp 58) (.tmp 60) 22 3 (.int .i64 0) 8 rfl Try.underlying22 info3 rfl (by decide) (by omega) u3 x3_1 (wrap64 (32 + (wrap64 (Int.tmod (IntKind.u64.wrap (rd l0 x5_1)) 91)))) [.int .i64 (wrap64 (32 + (wrap64 (Int.tmod (IntKind.u64.wrap (rd l0 x5_1)) 91))))] (fun _ => True) (fun _ => False) rfl rfl ?aP (fun _ hk => hk.elim) ?aF ?aO ?aB ?aS ?aL ?_; (case aP => exact rfl); (case aB => exact (by repeat (first | (with_reducible first | exact HB.out | apply below_alloc | apply pw_below_drewN | apply below_drew1) | exact HB.out))); (case aF => exact (fun _ _ => trivial)); (case aO => exact (by (with_reducible repeat (first | apply Kd.R_alloc | apply Kd.R_drewN | apply Kd.R_drew)); exact HO_3.out)); (case aS => exact (below_size (by repeat (first | (with_reducible first | exact HB.out | apply below_alloc | apply pw_below_drewN | apply below_drew1) | exact HB.out)))); (case aL => have := LMc115.out; omega); intro v698 w117 ho hb hg hat; rw [← Ny697.out] at ho; have n0_ := Aside0.mk (Kd.R_over' (by (with_reducible repeat (first | apply Kd.R_alloc | apply Kd.R_drewN | apply Kd.R_drew)); exact HO_4.out) (Kd.R_typed (by (with_reducible repeat (first | apply Kd.R_alloc | apply Kd.R_drewN | apply Kd.R_drew)); exact HO_3.out)) (by decide) hg); have n1_ := Aside0.mk (hb); have n2_ := Aside0.mk (ho); clear HO_4; clear HB; clear HO_3; have HO_4 := n0_; have HB := n1_; have HO699 := n2_; clear n0_ n1_ n2_; clear ho hb hg hat) | ((with_reducible refine gate_builtin (b := .append) (xs := #[.tmp 62, .tmp 65]) rfl ?_); at_builtin; refine Kd.R_append (Kd.int .u8) (w0 := w) w.heap.size rfl (.tmp 62) (.tmp 65) 23 5 (.int .u8 0) 1 rfl Try.underlying23 info5 rfl (by decide) (by omega) u4 x4_1 ((wrap64 (32 + (wrap64 (Int.tmod (IntKind.u64.wrap (rd l0 x5_1)) 91)))) % 256) [.int .u8 ((wrap64 (32 + (wrap64 (Int.tmod (IntKind.u64.wrap (rd l0 x5_1)) 91)))) % 256)] (fun _ => True) (fun _ => False) rfl rfl ?aP (fun _ hk => hk.elim) ?aF ?aO ?aB ?aS ?aL ?_; (case aP => exact rfl); (case aB => exact (by repeat (first | (with_reducible first | exact HB.out | apply below_alloc | apply pw_below_drewN | apply below_drew1) | exact HB.out))); (case aF => exact (fun _ _ => trivial)); (case aO => exact (by (with_reducible repeat (first | apply Kd.R_alloc | apply Kd.R_drewN | apply Kd.R_drew)); exact HO_4.out)); (case aS => exact (below_size (by repeat (first | (with_reducible first | exact HB.out | apply below_alloc | apply pw_below_drewN | apply below_drew1) | exact HB.out)))); (case aL => have := LMc116.out; omega); intro v701 w118 ho hb hg hat; rw [← Ny700.out] at ho; have n0_ := Aside0.mk (Kd.R_over' (by (with_reducible repeat (first | apply Kd.R_alloc | apply Kd.R_drewN | apply Kd.R_drew)); exact HO699.out) (Kd.R_typed (by (with_reducible repeat (first | apply Kd.R_alloc | apply Kd.R_drewN | apply Kd.R_drew)); exact HO_4.out)) (by decide) hg); have n1_ := Aside0.mk (hb); have n2_ := Aside0.mk (ho); clear HO699; clear HB; clear HO_4; have HO699 := n0_; have HB := n1_; have HO702 := n2_; clear n0_ n1_ n2_; clear ho hb hg hat))
     go_roundg k1
     case measure => have := HK1.out; omega
     case rel => exact ⟨(y697), (y700), (wrap64 (x5_1 + 1)), (by first | rfl | (simp; done) | (simp [*]; done)), H', ⟨by have := HK1.out; omega⟩, ⟨by (with_reducible repeat (first | apply Kd.R_alloc | apply Kd.R_drewN | apply Kd.R_drew)); exact HO699.out⟩, ⟨by (with_reducible repeat (first | apply Kd.R_alloc | apply Kd.R_drewN | apply Kd.R_drew)); exact HO702.out⟩, ⟨by repeat (first | (with_reducible first | exact HB.out | apply below_alloc | apply pw_below_drewN | apply below_drew1) | exact HB.out)⟩⟩
    rw [if_pos c65] at H
    have c65b0 : decide (58 ≤ (wrap64 (32 + (wrap64 (Int.tmod (IntKind.u64.wrap (rd l0 x5_1)) 91))))) = true := decide_eq_true c65
    clear c65
    by_cases c66 : (wrap64 (32 + (wrap64 (Int.tmod (IntKind.u64.wrap (rd l0 x5_1)) 91)))) ≤ 64
    ·rw [if_pos c66] at H
     have c66b0 : decide ((wrap64 (32 + (wrap64 (Int.tmod (IntKind.u64.wrap (rd l0 x5_1)) 91)))) ≤ 64) = true := decide_eq_true c66
     clear c66
     by_cases c67 : x3_1.length < 17592186044416
     rotate_left
     ·rw [if_neg c67] at H
      exact absurd H (by simp)
     rw [if_pos c67] at H
     have LMc67 := Aside0.mk c67
     clear c67
     obtain ⟨y637, hy637⟩ : ∃ y_ : List Int, y_ = (x3_1 ++ [97]) := ⟨_, rfl⟩
     replace H : (if x4_1.length < 140737488355328 then (sobriquetlaw18_TeletexPlain.l0 k1 l0 y637 (x4_1 ++ [97]) (wrap64 (x5_1 + 1))) else (none)) = some r := by first | (rw [hy637]; with_reducible exact H) | (have H2_ := (Option.bind_some _ _).symm.trans H; rw [hy637]; with_reducible exact H2_) | (have H2_ := (Option.bind_some _ _).symm.trans H; with_reducible exact H2_) | with_reducible exact H | (rw [hy637]; exact H) | exact H
     have Ny637 := Aside0.mk hy637
     clear hy637
     by_cases c68 : x4_1.length < 140737488355328
     rotate_left
     ·rw [if_neg c68] at H
      exact absurd H (by simp)
     rw [if_pos c68] at H
     have LMc68 := Aside0.mk c68
     clear c68
     obtain ⟨y640, hy640⟩ : ∃ y_ : List Int, y_ = (x4_1 ++ [97]) := ⟨_, rfl⟩
     replace H : (sobriquetlaw18_TeletexPlain.l0 k1 l0 y637 y640 (wrap64 (x5_1 + 1))) = some r := by first | (rw [hy640]; with_reducible exact H) | (have H2_ := (Option.bind_some _ _).symm.trans H; rw [hy640]; with_reducible exact H2_) | (have H2_ := (Option.bind_some _ _).symm.trans H; with_reducible exact H2_) | with_reducible exact H | (rw [hy640]; exact H) | exact H
     have Ny640 := Aside0.mk hy640
     clear hy640
     have H' := Aside0.mk H
     clear H
     have p564 : 0 ≤ (x5_1 : Int) := of_decide_eq_true (by first | (with_reducible assumption) | assumption)
     have q564 : x5_1 < (l0.length : Int) := of_decide_eq_true (by first | (with_reducible assumption) | assumption)
     obtain ⟨ad564, e564, hx564_0⟩ := Kd.at_int HR0.out x5_1 p564 q564
     cases e564
     replace hx564_0 := (HB.out.cell (World.block_lt_of_cell? w _ hx564_0)).trans hx564_0
     replace p564 := eq_true p564
     replace q564 := eq_true q564
     go_wp2_with (first | ((with_reducible refine gate_builtin (b := .append) (xs := #[.tmp 58, .tmp 60]) rfl ?_); at_builtin; refine Kd.R_append (Kd.int .i64) (w0 := w) w.heap.size rfl (.tmp 58) (.tmp 60) 22 3 (.int .i64 0) 8 rfl Try.underlying22 info3 rfl (by decide) (by omega) u3 x3_1 97 [.int .i64 97] (fun _ => True) (fun _ => False) rfl rfl ?aP (fun _ hk => hk.elim) ?aF ?aO ?aB ?aS ?aL ?_; (case aP => exact rfl); (case aB => exact (by repeat (first | (with_reducible first | exact HB.out | apply below_alloc | apply pw_below_drewN | apply below_drew1) | exact HB.out))); (case aF => exact (fun _ _ => trivial)); (case aO => exact (by (with_reducible repeat (first | apply Kd.R_alloc | apply Kd.R_drewN | apply Kd.R_drew)); exact HO_3.out)); (case aS => exact (below_size (by repeat (first | (with_reducible first | exact HB.out | apply below_alloc | apply pw_below_drewN | apply below_drew1) | exact HB.out)))); (case aL => have := LMc67.out; omega); intro v638 w69 ho hb hg hat; rw [← Ny637.out] at ho; have n0_ := Aside0.mk (Kd.R_over' (by (with_reducible repeat (first | apply Kd.R_alloc | apply Kd.R_drewN | apply Kd.R_drew)); exact HO_4.out) (Kd.R_typed (by (with_reducible repeat (first | apply Kd.R_alloc | apply Kd.R_drewN | apply Kd.R_drew)); exact HO_3.out)) (by decide) hg); have n1_ := Aside0.mk (hb); have n2_ := Aside0.mk (ho); clear HO_4; clear HB; clear HO_3; have HO_4 := n0_; have HB := n1_; have HO639 := n2_; clear n0_ n1_ n2_; clear ho hb hg hat) | ((with_reducible refine gate_builtin (b := .append) (xs := #[.tmp 62, .tmp 65]) rfl ?_); at_builtin; refine Kd.R_append (Kd.int .u8) (w0 := w) w.heap.size rfl (.tmp 62) (.tmp 65) 23 5 (.int .u8 0) 1 rfl Try.underlying23 info5 rfl (by decide) (by omega) u4 x4_1 97 [.int .u8 97] (fun _ => True) (fun _ => False) rfl rfl ?aP (fun _ hk => hk.elim) ?aF ?aO ?aB ?aS ?aL ?_; (case aP => exact rfl); (case aB => exact (by repeat (first | (with_reducible first | exact HB.out | apply below_alloc | apply pw_below_drewN | apply below_drew1) | exact HB.out))); (case aF => exact (fun _ _ => trivial)); (case aO => exact (by (with_reducible repeat (first | apply Kd.R_alloc | apply Kd.R_drewN | apply Kd.R_drew)); exact HO_4.out)); (case aS => exact (below_size (by repeat (first | (with_reducible first | exact HB.out | apply below_alloc | apply pw_below_drewN | apply below_drew1) | exact HB.out)))); (case aL => have := LMc68.out; omega); intro v641 w70 ho hb hg hat; rw [← Ny640.out] at ho; have n0_ := Aside0.mk (Kd.R_over' (by (with_reducible repeat (first | apply Kd.R_alloc | apply Kd.R_drewN | apply Kd.R_drew)); exact HO639.out) (Kd.R_typed (by (with_reducible repeat (first | apply Kd.R_alloc | apply Kd.R_drewN | apply Kd.R_drew)); exact HO_4.out)) (by decide) hg); have n1_ := Aside0.mk (hb); have n2_ := Aside0.mk (ho); clear HO639; clear HB; clear HO_4; have HO639 := n0_; have HB := n1_; have HO642 := n2_; clear n0_ n1_ n2_; clear ho hb hg hat))
     go_roundg k1
     case measure => have := HK1.out; omega
     case rel => exact ⟨(y637), (y640), (wrap64 (x5_1 + 1)), (by first | rfl | (simp; done) | (simp [*]; done)), H', ⟨by have := HK1.out; omega⟩, ⟨by (with_reducible repeat (first | apply Kd.R_alloc | apply Kd.R_drewN | apply Kd.R_drew)); exact HO639.out⟩, ⟨by (with_reducible repeat (first | apply Kd.R_alloc | apply Kd.R_drewN | apply Kd.R_drew)); exact HO642.out⟩, ⟨by repeat (first | (with_reducible first | exact HB.out | apply below_alloc | apply pw_below_drewN | apply below_drew1) | exact HB.out)⟩⟩
    rw [if_neg c66] at H
    have c66b0 : decide ((wrap64 (32 + (wrap64 (Int.tmod (IntKind.u64.wrap (rd l0 x5_1)) 91)))) ≤ 64) = false := decide_eq_false c66
    clear c66
    by_cases c71 : (wrap64 (32 + (wrap64 (Int.tmod (IntKind.u64.wrap (rd l0 x5_1)) 91)))) = 92
    ·rw [if_pos c71] at H
     have c71b0 : ((wrap64 (32 + (wrap64 (Int.tmod (IntKind.u64.wrap (rd l0 x5_1)) 91)))) == 92) = true := beq_iff_eq.mpr c71
     have c71b1 : ((wrap64 (32 + (wrap64 (Int.tmod (IntKind.u64.wrap (rd l0 x5_1)) 91)))) != 92) = false := bne_eq_false_iff_eq.mpr c71
     clear c71
     by_cases c72 : x3_1.length < 17592186044416
     rotate_left
     ·rw [if_neg c72] at H
      exact absurd H (by simp)
     rw [if_pos c72] at H
     have LMc72 := Aside0.mk c72
     clear c72
     obtain ⟨y643, hy643⟩ : ∃ y_ : List Int, y_ = (x3_1 ++ [97]) := ⟨_, rfl⟩
     replace H : (if x4_1.length < 140737488355328 then (sobriquetlaw18_TeletexPlain.l0 k1 l0 y643 (x4_1 ++ [97]) (wrap64 (x5_1 + 1))) else (none)) = some r := by first | (rw [hy643]; with_reducible exact H) | (have H2_ := (Option.bind_some _ _).symm.trans H; rw [hy643]; with_reducible exact H2_) | (have H2_ := (Option.bind_some _ _).symm.trans H; with_reducible exact H2_) | with_reducible exact H | (rw [hy643]; exact H) | exact H
     have Ny643 := Aside0.mk hy643
     clear hy643
     by_cases c73 : x4_1.length < 140737488355328
     rotate_left
     ·rw [if_neg c73] at H
      exact absurd H (by simp)
     rw [if_pos c73] at H
     have LMc73 := Aside0.mk c73
     clear c73
     obtain ⟨y646, hy646⟩ : ∃ y_ : List Int, y_ = (x4_1 ++ [97]) := ⟨_, rfl⟩
     replace H : (sobriquetlaw18_TeletexPlain.l0 k1 l0 y643 y646 (wrap64 (x5_1 + 1))) = some r := by first | (rw [hy646]; with_reducible exact H) | (have H2_ := (Option.bind_some _ _).symm.trans H; rw [hy646]; with_reducible exact H2_) | (have H2_ := (Option.bind_some _ _).symm.trans H; with_reducible exact H2_) | with_reducible exact H | (rw [hy646]; exact H) | exact H
     have Ny646 := Aside0.mk hy646
     clear hy646
     have H' := Aside0.mk H
     clear H
     have p564 : 0 ≤ (x5_1 : Int) := of_decide_eq_true (by first | (with_reducible assumption) | assumption)
     have q564 : x5_1 < (l0.length : Int) := of_decide_eq_true (by first | (with_reducible assumption) | assumption)
     obtain ⟨ad564, e564, hx564_0⟩ := Kd.at_int HR0.out x5_1 p564 q564
     cases e564
     replace hx564_0 := (HB.out.cell (World.block_lt_of_cell? w _ hx564_0)).trans hx564_0
     replace p564 := eq_true p564
     replace q564 := eq_true q564
     go_wp2_with (first | ((with_reducible refine gate_builtin (b := .append) (xs := #[.tmp 58, .tmp 60]) rfl ?_); at_builtin; refine Kd.R_append (Kd.int .i64) (w0 := w) w.heap.size rfl (.tmp 58) (.tmp 60) 22 3 (.int .i64 0) 8 rfl Try.underlying22 info3 rfl (by decide) (by omega) u3 x3_1 97 [.int .i64 97] (fun _ => True) (fun _ => False) rfl rfl ?aP (fun _ hk => hk.elim) ?aF ?aO ?aB ?aS ?aL ?_; (case aP => exact rfl); (case aB => exact (by repeat (first | (with_reducible first | exact HB.out | apply below_alloc | apply pw_below_drewN | apply below_drew1) | exact HB.out))); (case aF => exact (fun _ _ => trivial)); (case aO => exact (by (with_reducible repeat (first | apply Kd.R_alloc | apply Kd.R_drewN | apply Kd.R_drew)); exact HO_3.out)); (case aS => exact (below_size (by repeat (first | (with_reducible first | exact HB.out | apply below_alloc | apply pw_below_drewN | apply below_drew1) | exact HB.out)))); (case aL => have := LMc72.out; omega); intro v644 w74 ho hb hg hat; rw [← Ny643.out] at ho; have n0_ := Aside0.mk (Kd.R_over' (by (with_reducible repeat (first | apply Kd.R_alloc | apply Kd.R_drewN | apply Kd.R_drew)); exact HO_4.out) (Kd.R_typed (by (with_reducible repeat (first | apply Kd.R_alloc | apply Kd.R_drewN | apply Kd.R_drew)); exact HO_3.out)) (by decide) hg); have n1_ := Aside0.mk (hb); have n2_ := Aside0.mk (ho); clear HO_4; clear HB; clear HO_3; have HO_4 := n0_; have HB := n1_; have HO645 := n2_; clear n0_ n1_ n2_; clear ho hb hg hat) | ((with_reducible refine gate_builtin (b := .append) (xs := #[.tmp 62, .tmp 65]) rfl ?_); at_builtin; refine Kd.R_append (Kd.int .u8) (w0 := w) w.heap.size rfl (.tmp 62) (.tmp 65) 23 5 (.int .u8 0) 1 rfl Try.underlying23 info5 rfl (by decide) (by omega) u4 x4_1 97 [.int .u8 97] (fun _ => True) (fun _ => False) rfl rfl ?aP (fun _ hk => hk.elim) ?aF ?aO ?aB ?aS ?aL ?_; (case aP => exact rfl); (case aB => exact (by repeat (first | (with_reducible first | exact HB.out | apply below_alloc | apply pw_below_drewN | apply below_drew1) | exact HB.out))); (case aF => exact (fun _ _ => trivial)); (case aO => exact (by (with_reducible repeat (first | apply Kd.R_alloc | apply Kd.R_drewN | apply Kd.R_drew)); exact HO_4.out)); (case aS => exact (below_size (by repeat (first | (with_reducible first | exact HB.out | apply below_alloc | apply pw_below_drewN | apply below_drew1) | exact HB.out)))); (case aL => have := LMc73.out; omega); intro v647 w75 ho hb hg hat; rw [← Ny646.out] at ho; have n0_ := Aside0.mk (Kd.R_over' (by (with_reducible repeat (first | apply Kd.R_alloc | apply Kd.R_drewN | apply Kd.R_drew)); exact HO645.out) (Kd.R_typed (by (with_reducible repeat (first | apply Kd.R_alloc | apply Kd.R_drewN | apply Kd.R_drew)); exact HO_4.out)) (by decide) hg); have n1_ := Aside0.mk (hb); have n2_ := Aside0.mk (ho); clear HO645; clear HB; clear HO_4; have HO645 := n0_; have HB := n1_; have HO648 := n2_; clear n0_ n1_ n2_; clear ho hb hg hat))
     go_roundg k1
     case measure => have := HK1.out; omega
     case rel => exact ⟨(y643), (y646), (wrap64 (x5_1 + 1)), (by first | rfl | (simp; done) | (simp [*]; done)), H', ⟨by have := HK1.out; omega⟩, ⟨by (with_reducible repeat (first | apply Kd.R_alloc | apply Kd.R_drewN | apply Kd.R_drew)); exact HO645.out⟩, ⟨by (with_reducible repeat (first | apply Kd.R_alloc | apply Kd.R_drewN | apply Kd.R_drew)); exact HO648.out⟩, ⟨by repeat (first | (with_reducible first | exact HB.out | apply below_alloc | apply pw_below_drewN | apply below_drew1) | exact HB.out)⟩⟩
    rw [if_neg c71] at H
    have c71b0 : ((wrap64 (32 + (wrap64 (Int.tmod (IntKind.u64.wrap (rd l0 x5_1)) 91)))) == 92) = false := beq_eq_false_iff_ne.mpr c71
    have c71b1 : ((wrap64 (32 + (wrap64 (Int.tmod (IntKind.u64.wrap (rd l0 x5_1)) 91)))) != 92) = true := bne_iff_ne.mpr c71
    by_cases c76 : (wrap64 (32 + (wrap64 (Int.tmod (IntKind.u64.wrap (rd l0 x5_1)) 91)))) = 94
    ·rw [if_pos c76] at H
     have c76b0 : ((wrap64 (32 + (wrap64 (Int.tmod (IntKind.u64.wrap (rd l0 x5_1)) 91)))) == 94) = true := beq_iff_eq.mpr c76
     have c76b1 : ((wrap64 (32 + (wrap64 (Int.tmod (IntKind.u64.wrap (rd l0 x5_1)) 91)))) != 94) = false := bne_eq_false_iff_eq.mpr c76
     clear c76
     by_cases c77 : x3_1.length < 17592186044416
     rotate_left
     ·rw [if_neg c77] at H
      exact absurd H (by simp)
     rw [if_pos c77] at H
     have LMc77 := Aside0.mk c77
     clear c77
     obtain ⟨y649, hy649⟩ : ∃ y_ : List Int, y_ = (x3_1 ++ [97]) := ⟨_, rfl⟩
     replace H : (if x4_1.length < 140737488355328 then (sobriquetlaw18_TeletexPlain.l0 k1 l0 y649 (x4_1 ++ [97]) (wrap64 (x5_1 + 1))) else (none)) = some r := by first | (rw [hy649]; with_reducible exact H) | (have H2_ := (Option.bind_some _ _).symm.trans H; rw [hy649]; with_reducible exact H2_) | (have H2_ := (Option.bind_some _ _).symm.trans H; with_reducible exact H2_) | with_reducible exact H | (rw [hy649]; exact H) | exact H
     have Ny649 := Aside0.mk hy649
     clear hy649
     by_cases c78 : x4_1.length < 140737488355328
     rotate_left
     ·rw [if_neg c78] at H
      exact absurd H (by simp)
     rw [if_pos c78] at H
     have LMc78 := Aside0.mk c78
     clear c78
     obtain ⟨y652, hy652⟩ : ∃ y_ : List Int, y_ = (x4_1 ++ [97]) := ⟨_, rfl⟩
     replace H : (sobriquetlaw18_TeletexPlain.l0 k1 l0 y649 y652 (wrap64 (x5_1 + 1))) = some r := by first | (rw [hy652]; with_reducible exact H) | (have H2_ := (Option.bind_some _ _).symm.trans H; rw [hy652]; with_reducible exact H2_) | (have H2_ := (Option.bind_some _ _).symm.trans H; with_reducible exact H2_) | with_reducible exact H | (rw [hy652]; exact H) | exact H
     have Ny652 := Aside0.mk hy652
     clear hy652
     have H' := Aside0.mk H
     clear H
     have p564 : 0 ≤ (x5_1 : Int) := of_decide_eq_true (by first | (with_reducible assumption) | assumption)
     have q564 : x5_1 < (l0.length : Int) := of_decide_eq_true (by first | (with_reducible assumption) | assumption)
     obtain ⟨ad564, e564, hx564_0⟩ := Kd.at_int HR0.out x5_1 p564 q564
     cases e564
     replace hx564_0 := (HB.out.cell (World.block_lt_of_cell? w _ hx564_0)).trans hx564_0
     replace p564 := eq_true p564
     replace q564 := eq_true q564
     go_wp2_with (first | ((with_reducible refine gate_builtin (b := .append) (xs := #[.tmp 58, .tmp 60]) rfl ?_); at_builtin; refine Kd.R_append (Kd.int .i64) (w0 := w) w.heap.size rfl (.tmp 58) (.tmp 60) 22 3 (.int .i64 0) 8 rfl Try.underlying22 info3 rfl (by decide) (by omega) u3 x3_1 97 [.int .i64 97] (fun _ => True) (fun _ => False) rfl rfl ?aP (fun _ hk => hk.elim) ?aF ?aO ?aB ?aS ?aL ?_; (case aP => exact rfl); (case aB => exact (by repeat (first | (with_reducible first | exact HB.out | apply below_alloc | apply pw_below_drewN | apply below_drew1) | exact HB.out))); (case aF => exact (fun _ _ => trivial)); (case aO => exact (by (with_reducible repeat (first | apply Kd.R_alloc | apply Kd.R_drewN | apply Kd.R_drew)); exact HO_3.out)); (case aS => exact (below_size (by repeat (first | (with_reducible first | exact HB.out | apply below_alloc | apply pw_below_drewN | apply below_drew1) | exact HB.out)))); (case aL => have := LMc77.out; omega); intro v650 w79 ho hb hg hat; rw [← Ny649.out] at ho; have n0_ := Aside0.mk (Kd.R_over' (by (with_reducible repeat (first | apply Kd.R_alloc | apply Kd.R_drewN | apply Kd.R_drew)); exact HO_4.out) (Kd.R_typed (by (with_reducible repeat (first | apply Kd.R_alloc | apply Kd.R_drewN | apply Kd.R_drew)); exact HO_3.out)) (by decide) hg); have n1_ := Aside0.mk (hb); have n2_ := Aside0.mk (ho); clear HO_4; clear HB; clear HO_3; have HO_4 := n0_; have HB := n1_; have HO651 := n2_; clear n0_ n1_ n2_; clear ho hb hg hat) | ((with_reducible refine gate_builtin (b := .append) (xs := #[.tmp 62, .tmp 65]) rfl ?_); at_builtin; refine Kd.R_append (Kd.int .u8) (w0 := w) w.heap.size rfl (.tmp 62) (.tmp 65) 23 5 (.int .u8 0) 1 rfl Try.underlying23 info5 rfl (by decide) (by omega) u4 x4_1 97 [.int .u8 97] (fun _ => True) (fun _ => False) rfl rfl ?aP (fun _ hk => hk.elim) ?aF ?aO ?aB ?aS ?aL ?_; (case aP => exact rfl); (case aB => exact (by repeat (first | (with_reducible first | exact HB.out | apply below_alloc | apply pw_below_drewN | apply below_drew1) | exact HB.out))); (case aF => exact (fun _ _ => trivial)); (case aO => exact (by (with_reducible repeat (first | apply Kd.R_alloc | apply Kd.R_drewN | apply Kd.R_drew)); exact HO_4.out)); (case aS => exact (below_size (by repeat (first | (with_reducible first | exact HB.out | apply below_alloc | apply pw_below_drewN | apply below_drew1) | exact HB.out)))); (case aL => have := LMc78.out; omega); intro v653 w80 ho hb hg hat; rw [← Ny652.out] at ho; have n0_ := Aside0.mk (Kd.R_over' (by (with_reducible repeat (first | apply Kd.R_alloc | apply Kd.R_drewN | apply Kd.R_drew)); exact HO651.out) (Kd.R_typed (by (with_reducible repeat (first | apply Kd.R_alloc | apply Kd.R_drewN | apply Kd.R_drew)); exact HO_4.out)) (by decide) hg); have n1_ := Aside0.mk (hb); have n2_ := Aside0.mk (ho); clear HO651; clear HB; clear HO_4; have HO651 := n0_; have HB := n1_; have HO654 := n2_; clear n0_ n1_ n2_; clear ho hb hg hat))
     go_roundg k1
     case measure => have := HK1.out; omega
     case rel => exact ⟨(y649), (y652), (wrap64 (x5_1 + 1)), (by first | rfl | (simp; done) | (simp [*]; done)), H', ⟨by have := HK1.out; omega⟩, ⟨by (with_reducible repeat (first | apply Kd.R_alloc | apply Kd.R_drewN | apply Kd.R_drew)); exact HO651.out⟩, ⟨by (with_reducible repeat (first | apply Kd.R_alloc | apply Kd.R_drewN | apply Kd.R_drew)); exact HO654.out⟩, ⟨by repeat (first | (with_reducible first | exact HB.out | apply below_alloc | apply pw_below_drewN | apply below_drew1) | exact HB.out)⟩⟩
    rw [if_neg c76] at H
    have c76b0 : ((wrap64 (32 + (wrap64 (Int.tmod (IntKind.u64.wrap (rd l0 x5_1)) 91)))) == 94) = false := beq_eq_false_iff_ne.mpr c76
    have c76b1 : ((wrap64 (32 + (wrap64 (Int.tmod (IntKind.u64.wrap (rd l0 x5_1)) 91)))) != 94) = true := bne_iff_ne.mpr c76
    by_cases c81 : (wrap64 (32 + (wrap64 (Int.tmod (IntKind.u64.wrap (rd l0 x5_1)) 91)))) = 96
    ·rw [if_pos c81] at H
     have c81b0 : ((wrap64 (32 + (wrap64 (Int.tmod (IntKind.u64.wrap (rd l0 x5_1)) 91)))) == 96) = true := beq_iff_eq.mpr c81
     have c81b1 : ((wrap64 (32 + (wrap64 (Int.tmod (IntKind.u64.wrap (rd l0 x5_1)) 91)))) != 96) = false := bne_eq_false_iff_eq.mpr c81
     clear c81
     by_cases c82 : x3_1.length < 17592186044416
     rotate_left
     ·rw [if_neg c82] at H
      exact absurd H (by simp)
     rw [if_pos c82] at H
     have LMc82 := Aside0.mk c82
     clear c82
     obtain ⟨y655, hy655⟩ : ∃ y_ : List Int, y_ = (x3_1 ++ [97]) := ⟨_, rfl⟩
     replace H : (if x4_1.length < 140737488355328 then (sobriquetlaw18_TeletexPlain.l0 k1 l0 y655 (x4_1 ++ [97]) (wrap64 (x5_1 + 1))) else (none)) = some r := by first | (rw [hy655]; with_reducible exact H) | (have H2_ := (Option.bind_some _ _).symm.trans H; rw [hy655]; with_reducible exact H2_) | (have H2_ := (Option.bind_some _ _).symm.trans H; with_reducible exact H2_) | with_reducible exact H | (rw [hy655]; exact H) | exact H
     have Ny655 := Aside0.mk hy655
     clear hy655
     by_cases c83 : x4_1.length < 140737488355328
     rotate_left
     ·rw [if_neg c83] at H
      exact absurd H (by simp)
     rw [if_pos c83] at H
     have LMc83 := Aside0.mk c83
     clear c83
     obtain ⟨y658, hy658⟩ : ∃ y_ : List Int, y_ = (x4_1 ++ [97]) := ⟨_, rfl⟩
     replace H : (sobriquetlaw18_TeletexPlain.l0 k1 l0 y655 y658 (wrap64 (x5_1 + 1))) = some r := by first | (rw [hy658]; with_reducible exact H) | (have H2_ := (Option.bind_some _ _).symm.trans H; rw [hy658]; with_reducible exact H2_) | (have H2_ := (Option.bind_some _ _).symm.trans H; with_reducible exact H2_) | with_reducible exact H | (rw [hy658]; exact H) | exact H
     have Ny658 := Aside0.mk hy658
     clear hy658
     have H' := Aside0.mk H
     clear H
     have p564 : 0 ≤ (x5_1 : Int) := of_decide_eq_true (by first | (with_reducible assumption) | assumption)
     have q564 : x5_1 < (l0.length : Int) := of_decide_eq_true (by first | (with_reducible assumption) | assumption)
     obtain ⟨ad564, e564, hx564_0⟩ := Kd.at_int HR0.out x5_1 p564 q564
     cases e564
     replace hx564_0 := (HB.out.cell (World.block_lt_of_cell? w _ hx564_0)).trans hx564_0
     replace p564 := eq_true p564
     replace q564 := eq_true q564
     go_wp2_with (first | ((with_reducible refine gate_builtin (b := .append) (xs := #[.tmp 58, .tmp 60]) rfl ?_); at_builtin; refine Kd.R_append (Kd.int .i64) (w0 := w) w.heap.size rfl (.tmp 58) (.tmp 60) 22 3 (.int .i64 0) 8 rfl Try.underlying22 info3 rfl (by decide) (by omega) u3 x3_1 97 [.int .i64 97] (fun _ => True) (fun _ => False) rfl rfl ?aP (fun _ hk => hk.elim) ?aF ?aO ?aB ?aS ?aL ?_; (case aP => exact rfl); (case aB => exact (by repeat (first | (with_reducible first | exact HB.out | apply below_alloc | apply pw_below_drewN | apply below_drew1) | exact HB.out))); (case aF => exact (fun _ _ => trivial)); (case aO => exact (by (with_reducible repeat (first | apply Kd.R_alloc | apply Kd.R_drewN | apply Kd.R_drew)); exact HO_3.out)); (case aS => exact (below_size (by repeat (first | (with_reducible first | exact HB.out | apply below_alloc | apply pw_below_drewN | apply below_drew1) | exact HB.out)))); (case aL => have := LMc82.out; omega); intro v656 w84 ho hb hg hat; rw [← Ny655.out] at ho; have n0_ := Aside0.mk (Kd.R_over' (by (with_reducible repeat (first | apply Kd.R_alloc | apply Kd.R_drewN | apply Kd.R_drew)); exact HO_4.out) (Kd.R_typed (by (with_reducible repeat (first | apply Kd.R_alloc | apply Kd.R_drewN | apply Kd.R_drew)); exact HO_3.out)) (by decide) hg); have n1_ := Aside0.mk (hb); have n2_ := Aside0.mk (ho); clear HO_4; clear HB; clear HO_3; have HO_4 := n0_; have HB := n1_; have HO657 := n2_; clear n0_ n1_ n2_; clear ho hb hg hat) | ((with_reducible refine gate_builtin (b := .append) (xs := #[.tmp 62, .tmp 65]) rfl ?_); at_builtin; refine Kd.R_append (Kd.int .u8) (w0 := w) w.heap.size rfl (.tmp 62) (.tmp 65) 23 5 (.int .u8 0) 1 rfl Try.underlying23 info5 rfl (by decide) (by omega) u4 x4_1 97 [.int .u8 97] (fun _ => True) (fun _ => False) rfl rfl ?aP (fun _ hk => hk.elim) ?aF ?aO ?aB ?aS ?aL ?_; (case aP => exact rfl); (case aB => exact (by repeat (first | (with_reducible first | exact HB.out | apply below_alloc | apply pw_below_drewN | apply below_drew1) | exact HB.out))); (case aF => exact (fun _ _ => trivial)); (case aO => exact (by (with_reducible repeat (first | apply Kd.R_alloc | apply Kd.R_drewN | apply Kd.R_drew)); exact HO_4.out)); (case aS => exact (below_size (by repeat (first | (with_reducible first | exact HB.out | apply below_alloc | apply pw_below_drewN | apply below_drew1) | exact HB.out)))); (case aL => have := LMc83.out; omega); intro v659 w85 ho hb hg hat; rw [← Ny658.out] at ho; have n0_ := Aside0.mk (Kd.R_over' (by (with_reducible repeat (first | apply Kd.R_alloc | apply Kd.R_drewN | apply Kd.R_drew)); exact HO657.out) (Kd.R_typed (by (with_reducible repeat (first | apply Kd.R_alloc | apply Kd.R_drewN | apply Kd.R_drew)); exact HO_4.out)) (by decide) hg); have n1_ := Aside0.mk (hb); have n2_ := Aside0.mk (ho); clear HO657; clear HB; clear HO_4; have HO657 := n0_; have HB := n1_; have HO660 := n2_; clear n0_ n1_ n2_; clear ho hb hg hat))
     go_roundg k1
     case measure => have := HK1.out; omega
     case rel => exact ⟨(y655), (y658), (wrap64 (x5_1 + 1)), (by first | rfl | (simp; done) | (simp [*]; done)), H', ⟨by have := HK1.out; omega⟩, ⟨by (with_reducible repeat (first | apply Kd.R_alloc | apply Kd.R_drewN | apply Kd.R_drew)); exact HO657.out⟩, ⟨by (with_reducible repeat (first | apply Kd.R_alloc | apply Kd.R_drewN | apply Kd.R_drew)); exact HO660.out⟩, ⟨by repeat (first | (with_reducible first | exact HB.out | apply below_alloc | apply pw_below_drewN | apply below_drew1) | exact HB.out)⟩⟩
    rw [if_neg c81] at H
    have c81b0 : ((wrap64 (32 + (wrap64 (Int.tmod (IntKind.u64.wrap (rd l0 x5_1)) 91)))) == 96) = false := beq_eq_false_iff_ne.mpr c81
    have c81b1 : ((wrap64 (32 + (wrap64 (Int.tmod (IntKind.u64.wrap (rd l0 x5_1)) 91)))) != 96) = true := bne_iff_ne.mpr c81
    by_cases c86 : (wrap64 (32 + (wrap64 (Int.tmod (IntKind.u64.wrap (rd l0 x5_1)) 91)))) > 122
    ·rw [if_pos c86] at H
     have c86b0 : decide (122 < (wrap64 (32 + (wrap64 (Int.tmod (IntKind.u64.wrap (rd l0 x5_1)) 91))))) = true := decide_eq_true c86
     clear c86
     by_cases c87 : x3_1.length < 17592186044416
     rotate_left
     ·rw [if_neg c87] at H
      exact absurd H (by simp)
     rw [if_pos c87] at H
     have LMc87 := Aside0.mk c87
     clear c87
     obtain ⟨y661, hy661⟩ : ∃ y_ : List Int, y_ = (x3_1 ++ [97]) := ⟨_, rfl⟩
     replace H : (if x4_1.length < 140737488355328 then (sobriquetlaw18_TeletexPlain.l0 k1 l0 y661 (x4_1 ++ [97]) (wrap64 (x5_1 + 1))) else (none)) = some r := by first | (rw [hy661]; with_reducible exact H) | (have H2_ := (Option.bind_some _ _).symm.trans H; rw [hy661]; with_reducible exact H2_) | (have H2_ := (Option.bind_some _ _).symm.trans H; with_reducible exact H2_) | with_reducible exact H | (rw [hy661]; exact H) | exact H
     have Ny661 := Aside0.mk hy661
     clear hy661
     by_cases c88 : x4_1.length < 140737488355328
     rotate_left
     ·rw [if_neg c88] at H
      exact absurd H (by simp)
     rw [if_pos c88] at H
     have LMc88 := Aside0.mk c88
     clear c88
     obtain ⟨y664, hy664⟩ : ∃ y_ : List Int, y_ = (x4_1 ++ [97]) := ⟨_, rfl⟩
     replace H : (sobriquetlaw18_TeletexPlain.l0 k1 l0 y661 y664 (wrap64 (x5_1 + 1))) = some r := by first | (rw [hy664]; with_reducible exact H) | (have H2_ := (Option.bind_some _ _).symm.trans H; rw [hy664]; with_reducible exact H2_) | (have H2_ := (Option.bind_some _ _).symm.trans H; with_reducible exact H2_) | with_reducible exact H | (rw [hy664]; exact H) | exact H
     have Ny664 := Aside0.mk hy664
     clear hy664
     have H' := Aside0.mk H
     clear H
     have p564 : 0 ≤ (x5_1 : Int) := of_decide_eq_true (by first | (with_reducible assumption) | assumption)
     have q564 : x5_1 < (l0.length : Int) := of_decide_eq_true (by first | (with_reducible assumption) | assumption)
     obtain ⟨ad564, e564, hx564_0⟩ := Kd.at_int HR0.out x5_1 p564 q564
     cases e564
     replace hx564_0 := (HB.out.cell (World.block_lt_of_cell? w _ hx564_0)).trans hx564_0
     replace p564 := eq_true p564
     replace q564 := eq_true q564
     go_wp2_with (first | ((with_reducible refine gate_builtin (b := .append) (xs := #[.tmp 58, .tmp 60]) rfl ?_); at_builtin; refine Kd.R_append (Kd.int .i64) (w0 := w) w.heap.size rfl (.tmp 58) (.tmp 60) 22 3 (.int .i64 0) 8 rfl Try.underlying22 info3 rfl (by decide) (by omega) u3 x3_1 97 [.int .i64 97] (fun _ => True) (fun _ => False) rfl rfl ?aP (fun _ hk => hk.elim) ?aF ?aO ?aB ?aS ?aL ?_; (case aP => exact rfl); (case aB => exact (by repeat (first | (with_reducible first | exact HB.out | apply below_alloc | apply pw_below_drewN | apply below_drew1) | exact HB.out))); (case aF => exact (fun _ _ => trivial)); (case aO => exact (by (with_reducible repeat (first | apply Kd.R_alloc | apply Kd.R_drewN | apply Kd.R_drew)); exact HO_3.out)); (case aS => exact (below_size (by repeat (first | (with_reducible first | exact HB.out | apply below_alloc | apply pw_below_drewN | apply below_drew1) | exact HB.out)))); (case aL => have := LMc87.out; omega); intro v662 w89 ho hb hg hat; rw [← Ny661.out] at ho; have n0_ := Aside0.mk (Kd.R_over' (by (with_reducible repeat (first | apply Kd.R_alloc | apply Kd.R_drewN | apply Kd.R_drew)); exact HO_4.out) (Kd.R_typed (by (with_reducible repeat (first | apply Kd.R_alloc | apply Kd.R_drewN | apply Kd.R_drew)); exact HO_3.out)) (by decide) hg); have n1_ := Aside0.mk (hb); have n2_ := Aside0.mk (ho); clear HO_4; clear HB; clear HO_3; have HO_4 := n0_; have HB := n1_; have HO663 := n2_; clear n0_ n1_ n2_; clear ho hb hg hat) | ((with_reducible refine gate_builtin (b := .append) (xs := #[.tmp 62, .tmp 65]) rfl ?_); at_builtin; refine Kd.R_append (Kd.int .u8) (w0 := w) w.heap.size rfl (.tmp 62) (.tmp 65) 23 5 (.int .u8 0) 1 rfl Try.underlying23 info5 rfl (by decide) (by omega) u4 x4_1 97 [.int .u8 97] (fun _ => True) (fun _ => False) rfl rfl ?aP (fun _ hk => hk.elim) ?aF ?aO ?aB ?aS ?aL ?_; (case aP => exact rfl); (case aB => exact (by repeat (first | (with_reducible first | exact HB.out | apply below_alloc | apply pw_below_drewN | apply below_drew1) | exact HB.out))); (case aF => exact (fun _ _ => trivial)); (case aO => exact (by (with_reducible repeat (first | apply Kd.R_alloc | apply Kd.R_drewN | apply Kd.R_drew)); exact HO_4.out)); (case aS => exact (below_size (by repeat (first | (with_reducible first | exact HB.out | apply below_alloc | apply pw_below_drewN | apply below_drew1) | exact HB.out)))); (case aL => have := LMc88.out; omega); intro v665 w90 ho hb hg hat; rw [← Ny664.out] at ho; have n0_ := Aside0.mk (Kd.R_over' (by (with_reducible repeat (first | apply Kd.R_alloc | apply Kd.R_drewN | apply Kd.R_drew)); exact HO663.out) (Kd.R_typed (by (with_reducible repeat (first | apply Kd.R_alloc | apply Kd.R_drewN | apply Kd.R_drew)); exact HO_4.out)) (by decide) hg); have n1_ := Aside0.mk (hb); have n2_ := Aside0.mk (ho); clear HO663; clear HB; clear HO_4; have HO663 := n0_; have HB := n1_; have HO666 := n2_; clear n0_ n1_ n2_; clear ho hb hg hat))
     go_roundg k1
     case measure => have := HK1.out; omega
     case rel => exact ⟨(y661), (y664), (wrap64 (x5_1 + 1)), (by first | rfl | (simp; done) | (simp [*]; done)), H', ⟨by have := HK1.out; omega⟩, ⟨by (with_reducible repeat (first | apply Kd.R_alloc | apply Kd.R_drewN | apply Kd.R_drew)); exact HO663.out⟩, ⟨by (with_reducible repeat (first | apply Kd.R_alloc | apply Kd.R_drewN | apply Kd.R_drew)); exact HO666.out⟩, ⟨by repeat (first | (with_reducible first | exact HB.out | apply below_alloc | apply pw_below_drewN | apply below_drew1) | exact HB.out)⟩⟩
    rw [if_neg c86] at H
    have c86b0 : decide (122 < (wrap64 (32 + (wrap64 (Int.tmod (IntKind.u64.wrap (rd l0 x5_1)) 91))))) = false := decide_eq_false c86
    clear c86
    by_cases c91 : x3_1.length < 17592186044416
    rotate_left
    ·rw [if_neg c91] at H
     exact absurd H (by simp)
    rw [if_pos c91] at H
    have LMc91 := Aside0.mk c91
    clear c91
    obtain ⟨y667, hy667⟩ : ∃ y_ : List Int, y_ = (x3_1 ++ [wrap64 (32 + (wrap64 (Int.tmod (IntKind.u64.wrap (rd l0 x5_1)) 91)))]) := ⟨_, rfl⟩
    replace H : (if x4_1.length < 140737488355328 then (sobriquetlaw18_TeletexPlain.l0 k1 l0 y667 (x4_1 ++ [(wrap64 (32 + (wrap64 (Int.tmod (IntKind.u64.wrap (rd l0 x5_1)) 91)))) % 256]) (wrap64 (x5_1 + 1))) else (none)) = some r := by first | (rw [hy667]; with_reducible exact H) | (have H2_ := (Option.bind_some _ _).symm.trans H; rw [hy667]; with_reducible exact H2_) | (have H2_ := (Option.bind_some _ _).symm.trans H; with_reducible exact H2_) | with_reducible exact H | (rw [hy667]; exact H) | exact H
    have Ny667 := Aside0.mk hy667
    clear hy667
    by_cases c92 : x4_1.length < 140737488355328
    rotate_left
    ·rw [if_neg c92] at H
     exact absurd H (by simp)
    rw [if_pos c92] at H
    have LMc92 := Aside0.mk c92
    clear c92
    obtain ⟨y670, hy670⟩ : ∃ y_ : List Int, y_ = (x4_1 ++ [(wrap64 (32 + (wrap64 (Int.tmod (IntKind.u64.wrap (rd l0 x5_1)) 91)))) % 256]) := ⟨_, rfl⟩
    replace H : (sobriquetlaw18_TeletexPlain.l0 k1 l0 y667 y670 (wrap64 (x5_1 + 1))) = some r := by first | (rw [hy670]; with_reducible exact H) | (have H2_ := (Option.bind_some _ _).symm.trans H; rw [hy670]; with_reducible exact H2_) | (have H2_ := (Option.bind_some _ _).symm.trans H; with_reducible exact H2_) | with_reducible exact H | (rw [hy670]; exact H) | exact H
    have Ny670 := Aside0.mk hy670
    clear hy670
    have H' := Aside0.mk H
    clear H
    have p564 : 0 ≤ (x5_1 : Int) := of_decide_eq_true (by first | (with_reducible assumption) | assumption)
    have q564 : x5_1 < (l0.length : Int) := of_decide_eq_true (by first | (with_reducible assumption) | assumption)
    obtain ⟨ad564, e564, hx564_0⟩ := Kd.at_int HR0.out x5_1 p564 q564
    cases e564
    replace hx564_0 := (HB.out.cell (World.block_lt_of_cell? w _ hx564_0)).trans hx564_0
    replace p564 := eq_true p564
    replace q564 := eq_true q564
    go_wp2_with (first | ((with_reducible refine gate_builtin (b := .append) (xs := #[.tmp 58, .tmp 60]) rfl ?_); at_builtin; refine Kd.R_append (Kd.int .i64) (w0 := w) w.heap.size rfl (.tmp 58) (.tmp 60) 22 3 (.int .i64 0) 8 rfl Try.underlying22 info3 rfl (by decide) (by omega) u3 x3_1 (wrap64 (32 + (wrap64 (Int.tmod (IntKind.u64.wrap (rd l0 x5_1)) 91)))) [.int .i64 (wrap64 (32 + (wrap64 (Int.tmod (IntKind.u64.wrap (rd l0 x5_1)) 91))))] (fun _ => True) (fun _ => False) rfl rfl ?aP (fun _ hk => hk.elim) ?aF ?aO ?aB ?aS ?aL ?_; (case aP => exact rfl); (case aB => exact (by repeat (first | (with_reducible first | exact HB.out | apply below_alloc | apply pw_below_drewN | apply below_drew1) | exact HB.out))); (case aF => exact (fun _ _ => trivial)); (case aO => exact (by (with_reducible repeat (first | apply Kd.R_alloc | apply Kd.R_drewN | apply Kd.R_drew)); exact HO_3.out)); (case aS => exact (below_size (by repeat (first | (with_reducible first | exact HB.out | apply below_alloc | apply pw_below_drewN | apply below_drew1) | exact HB.out)))); (case aL => have := LMc91.out; omega); intro v668 w93 ho hb hg hat; rw [← Ny667.out] at ho; have n0_ := Aside0.mk (Kd.R_over' (by (with_reducible repeat (first | apply Kd.R_alloc | apply Kd.R_drewN | apply Kd.R_drew)); exact HO_4.out) (Kd.R_typed (by (with_reducible repeat (first | apply Kd.R_alloc | apply Kd.R_drewN | apply Kd.R_drew)); exact HO_3.out)) (by decide) hg); have n1_ := Aside0.mk (hb); have n2_ := Aside0.mk (ho); clear HO_4; clear HB; clear HO_3; have HO_4 := n0_; have HB := n1_; have HO669 := n2_; clear n0_ n1_ n2_; clear ho hb hg hat) | ((with_reducible refine gate_builtin (b := .append) (xs := #[.tmp 62, .tmp 65]) rfl ?_); at_builtin; refine Kd.R_append (Kd.int .u8) (w0 := w) w.heap.size rfl (.tmp 62) (.tmp 65) 23 5 (.int .u8 0) 1 rfl Try.underlying23 info5 rfl (by decide) (by omega) u4 x4_1 ((wrap64 (32 + (wrap64 (Int.tmod (IntKind.u64.wrap (rd l0 x5_1)) 91)))) % 256) [.int .u8 ((wrap64 (32 + (wrap64 (Int.tmod (IntKind.u64.wrap (rd l0 x5_1)) 91)))) % 256)] (fun _ => True) (fun _ => False) rfl rfl ?aP (fun _ hk => hk.elim) ?aF ?aO ?aB ?aS ?aL ?_; (case aP => exact rfl); (case aB => exact (by repeat (first | (with_reducible first | exact HB.out | apply below_alloc | apply pw_below_drewN | apply below_drew1) | exact HB.out))); (case aF => exact (fun _ _ => trivial)); (case aO => exact (by (with_reducible repeat (first | apply Kd.R_alloc | apply Kd.R_drewN | apply Kd.R_drew)); exact HO_4.out)); (case aS => exact (below_size (by repeat (first | (with_reducible first | exact HB.out | apply below_alloc | apply pw_below_drewN | apply below_drew1) | exact HB.out)))); (case aL => have := LMc92.out; omega); intro v671 w94 ho hb hg hat; rw [← Ny670.out] at ho; have n0_ := Aside0.mk (Kd.R_over' (by (with_reducible repeat (first | apply Kd.R_alloc | apply Kd.R_drewN | apply Kd.R_drew)); exact HO669.out) (Kd.R_typed (by (with_reducible repeat (first | apply Kd.R_alloc | apply Kd.R_drewN | apply Kd.R_drew)); exact HO_4.out)) (by decide) hg); have n1_ := Aside0.mk (hb); have n2_ := Aside0.mk (ho); clear HO669; clear HB; clear HO_4; have HO669 := n0_; have HB := n1_; have HO672 := n2_; clear n0_ n1_ n2_; clear ho hb hg hat))
    go_roundg k1
    case measure => have := HK1.out; omega
    case rel => exact ⟨(y667), (y670), (wrap64 (x5_1 + 1)), (by first | rfl | (simp; done) | (simp [*]; done)), H', ⟨by have := HK1.out; omega⟩, ⟨by (with_reducible repeat (first | apply Kd.R_alloc | apply Kd.R_drewN | apply Kd.R_drew)); exact HO669.out⟩, ⟨by (with_reducible repeat (first | apply Kd.R_alloc | apply Kd.R_drewN | apply Kd.R_drew)); exact HO672.out⟩, ⟨by repeat (first | (with_reducible first | exact HB.out | apply below_alloc | apply pw_below_drewN | apply below_drew1) | exact HB.out)⟩⟩
   rw [if_pos c5] at H
   have c5b0 : decide (33 ≤ (wrap64 (32 + (wrap64 (Int.tmod (IntKind.u64.wrap (rd l0 x5_1)) 91))))) = true := decide_eq_true c5
   clear c5
   by_cases c6 : (wrap64 (32 + (wrap64 (Int.tmod (IntKind.u64.wrap (rd l0 x5_1)) 91)))) ≤ 47
   ·rw [if_pos c6] at H
    have c6b0 : decide ((wrap64 (32 + (wrap64 (Int.tmod (IntKind.u64.wrap (rd l0 x5_1)) 91)))) ≤ 47) = true := decide_eq_true c6
    clear c6
    by_cases c7 : x3_1.length < 17592186044416
    rotate_left
    ·rw [if_neg c7] at H
     exact absurd H (by simp)
    rw [if_pos c7] at H
    have LMc7 := Aside0.mk c7
    clear c7
    obtain ⟨y565, hy565⟩ : ∃ y_ : List Int, y_ = (x3_1 ++ [97]) := ⟨_, rfl⟩
    replace H : (if x4_1.length < 140737488355328 then (sobriquetlaw18_TeletexPlain.l0 k1 l0 y565 (x4_1 ++ [97]) (wrap64 (x5_1 + 1))) else (none)) = some r := by first | (rw [hy565]; with_reducible exact H) | (have H2_ := (Option.bind_some _ _).symm.trans H; rw [hy565]; with_reducible exact H2_) | (have H2_ := (Option.bind_some _ _).symm.trans H; with_reducible exact H2_) | with_reducible exact H | (rw [hy565]; exact H) | exact H
    have Ny565 := Aside0.mk hy565
    clear hy565
    by_cases c8 : x4_1.length < 140737488355328
    rotate_left
    ·rw [if_neg c8] at H
     exact absurd H (by simp)
    rw [if_pos c8] at H
    have LMc8 := Aside0.mk c8
    clear c8
    obtain ⟨y568, hy568⟩ : ∃ y_ : List Int, y_ = (x4_1 ++ [97]) := ⟨_, rfl⟩
    replace H : (sobriquetlaw18_TeletexPlain.l0 k1 l0 y565 y568 (wrap64 (x5_1 + 1))) = some r := by first | (rw [hy568]; with_reducible exact H) | (have H2_ := (Option.bind_some _ _).symm.trans H; rw [hy568]; with_reducible exact H2_) | (have H2_ := (Option.bind_some _ _).symm.trans H; with_reducible exact H2_) | with_reducible exact H | (rw [hy568]; exact H) | exact H
    have Ny568 := Aside0.mk hy568
    clear hy568
    have H' := Aside0.mk H
    clear H
    have p564 : 0 ≤ (x5_1 : Int) := of_decide_eq_true (by first | (with_reducible assumption) | assumption)
    have q564 : x5_1 < (l0.length : Int) := of_decide_eq_true (by first | (with_reducible assumption) | assumption)
    obtain ⟨ad564, e564, hx564_0⟩ := Kd.at_int HR0.out x5_1 p564 q564
    cases e564
    replace hx564_0 := (HB.out.cell (World.block_lt_of_cell? w _ hx564_0)).trans hx564_0
    replace p564 := eq_true p564
    replace q564 := eq_true q564
    go_wp2_with (first | ((with_reducible refine gate_builtin (b := .append) (xs := #[.tmp 58, .tmp 60]) rfl ?_); at_builtin; refine Kd.R_append (Kd.int .i64) (w0 := w) w.heap.size rfl (.tmp 58) (.tmp 60) 22 3 (.int .i64 0) 8 rfl Try.underlying22 info3 rfl (by decide) (by omega) u3 x3_1 97 [.int .i64 97] (fun _ => True) (fun _ => False) rfl rfl ?aP (fun _ hk => hk.elim) ?aF ?aO ?aB ?aS ?aL ?_; (case aP => exact rfl); (case aB => exact (by repeat (first | (with_reducible first | exact HB.out | apply below_alloc | apply pw_below_drewN | apply below_drew1) | exact HB.out))); (case aF => exact (fun _ _ => trivial)); (case aO => exact (by (with_reducible repeat (first | apply Kd.R_alloc | apply Kd.R_drewN | apply Kd.R_drew)); exact HO_3.out)); (case aS => exact (below_size (by repeat (first | (with_reducible first | exact HB.out | apply below_alloc | apply pw_below_drewN | apply below_drew1) | exact HB.out)))); (case aL => have := LMc7.out; omega); intro v566 w9 ho hb hg hat; rw [← Ny565.out] at ho; have n0_ := Aside0.mk (Kd.R_over' (by (with_reducible repeat (first | apply Kd.R_alloc | apply Kd.R_drewN | apply Kd.R_drew)); exact HO_4.out) (Kd.R_typed (by (with_reducible repeat (first | apply Kd.R_alloc | apply Kd.R_drewN | apply Kd.R_drew)); exact HO_3.out)) (by decide) hg); have n1_ := Aside0.mk (hb); have n2_ := Aside0.mk (ho); clear HO_4; clear HB; clear HO_3; have HO_4 := n0_; have HB := n1_; have HO567 := n2_; clear n0_ n1_ n2_; clear ho hb hg hat) | ((with_reducible refine gate_builtin (b := .append) (xs := #[.tmp 62, .tmp 65]) rfl ?_); at_builtin; refine Kd.R_append (Kd.int .u8) (w0 := w) w.heap.size rfl (.tmp 62) (.tmp 65) 23 5 (.int .u8 0) 1 rfl Try.underlying23 info5 rfl (by decide) (by omega) u4 x4_1 97 [.int .u8 97] (fun _ => True) (fun _ => False) rfl rfl ?aP (fun _ hk => hk.elim) ?aF ?aO ?aB ?aS ?aL ?_; (case aP => exact rfl); (case aB => exact (by repeat (first | (with_reducible first | exact HB.out | apply below_alloc | apply pw_below_drewN | apply below_drew1) | exact HB.out))); (case aF => exact (fun _ _ => trivial)); (case aO => exact (by (with_reducible repeat (first | apply Kd.R_alloc | apply Kd.R_drewN | apply Kd.R_drew)); exact HO_4.out)); (case aS => exact (below_size (by repeat (first | (with_reducible first | exact HB.out | apply below_alloc | apply pw_below_drewN | apply below_drew1) | exact HB.out)))); (case aL => have := LMc8.out; omega); intro v569 w10 ho hb hg hat; rw [← Ny568.out] at ho; have n0_ := Aside0.mk (Kd.R_over' (by (with_reducible repeat (first | apply Kd.R_alloc | apply Kd.R_drewN | apply Kd.R_drew)); exact HO567.out) (Kd.R_typed (by (with_reducible repeat (first | apply Kd.R_alloc | apply Kd.R_drewN | apply Kd.R_drew)); exact HO_4.out)) (by decide) hg); have n1_ := Aside0.mk (hb); have n2_ := Aside0.mk (ho); clear HO567; clear HB; clear HO_4; have HO567 := n0_; have HB := n1_; have HO570 := n2_; clear n0_ n1_ n2_; clear ho hb hg hat))
    go_roundg k1
    case measure => have := HK1.out; omega
    case rel => exact ⟨(y565), (y568), (wrap64 (x5_1 + 1)), (by first | rfl | (simp; done) | (simp [*]; done)), H', ⟨by have := HK1.out; omega⟩, ⟨by (with_reducible repeat (first | apply Kd.R_alloc | apply Kd.R_drewN | apply Kd.R_drew)); exact HO567.out⟩, ⟨by (with_reducible repeat (first | apply Kd.R_alloc | apply Kd.R_drewN | apply Kd.R_drew)); exact HO570.out⟩, ⟨by repeat (first | (with_reducible first | exact HB.out | apply below_alloc | apply pw_below_drewN | apply below_drew1) | exact HB.out)⟩⟩
   rw [if_neg c6] at H
   have c6b0 : decide ((wrap64 (32 + (wrap64 (Int.tmod (IntKind.u64.wrap (rd l0 x5_1)) 91)))) ≤ 47) = false := decide_eq_false c6
   clear c6
   by_cases c11 : (wrap64 (32 + (wrap64 (Int.tmod (IntKind.u64.wrap (rd l0 x5_1)) 91)))) ≥ 58
   rotate_left
   ·rw [if_neg c11] at H
    have c11b0 : decide (58 ≤ (wrap64 (32 + (wrap64 (Int.tmod (IntKind.u64.wrap (rd l0 x5_1)) 91))))) = false := decide_eq_false c11
    clear c11
    by_cases c41 : (wrap64 (32 + (wrap64 (Int.tmod (IntKind.u64.wrap (rd l0 x5_1)) 91)))) = 92
    ·rw [if_pos c41] at H
     have c41b0 : ((wrap64 (32 + (wrap64 (Int.tmod (IntKind.u64.wrap (rd l0 x5_1)) 91)))) == 92) = true := beq_iff_eq.mpr c41
     have c41b1 : ((wrap64 (32 + (wrap64 (Int.tmod (IntKind.u64.wrap (rd l0 x5_1)) 91)))) != 92) = false := bne_eq_false_iff_eq.mpr c41
     clear c41
     by_cases c42 : x3_1.length < 17592186044416
     rotate_left
     ·rw [if_neg c42] at H
      exact absurd H (by simp)
     rw [if_pos c42] at H
     have LMc42 := Aside0.mk c42
     clear c42
     obtain ⟨y607, hy607⟩ : ∃ y_ : List Int, y_ = (x3_1 ++ [97]) := ⟨_, rfl⟩
     replace H : (if x4_1.length < 140737488355328 then (sobriquetlaw18_TeletexPlain.l0 k1 l0 y607 (x4_1 ++ [97]) (wrap64 (x5_1 + 1))) else (none)) = some r := by first | (rw [hy607]; with_reducible exact H) | (have H2_ := (Option.bind_some _ _).symm.trans H; rw [hy607]; with_reducible exact H2_) | (have H2_ := (Option.bind_some _ _).symm.trans H; with_reducible exact H2_) | with_reducible exact H | (rw [hy607]; exact H) | exact H
     have Ny607 := Aside0.mk hy607
     clear hy607
     by_cases c43 : x4_1.length < 140737488355328
     rotate_left
     ·rw [if_neg c43] at H
      exact absurd H (by simp)
     rw [if_pos c43] at H
     have LMc43 := Aside0.mk c43
     clear c43
     obtain ⟨y610, hy610⟩ : ∃ y_ : List Int, y_ = (x4_1 ++ [97]) := ⟨_, rfl⟩
     replace H : (sobriquetlaw18_TeletexPlain.l0 k1 l0 y607 y610 (wrap64 (x5_1 + 1))) = some r := by first | (rw [hy610]; with_reducible exact H) | (have H2_ := (Option.bind_some _ _).symm.trans H; rw [hy610]; with_reducible exact H2_) | (have H2_ := (Option.bind_some _ _).symm.trans H; with_reducible exact H2_) | with_reducible exact H | (rw [hy610]; exact H) | exact H
     have Ny610 := Aside0.mk hy610
     clear hy610
     have H' := Aside0.mk H
     clear H
     have p564 : 0 ≤ (x5_1 : Int) := of_decide_eq_true (by first | (with_reducible assumption) | assumption)
     have q564 : x5_1 < (l0.length : Int) := of_decide_eq_true (by first | (with_reducible assumption) | assumption)
     obtain ⟨ad564, e564, hx564_0⟩ := Kd.at_int HR0.out x5_1 p564 q564
     cases e564
     replace hx564_0 := (HB.out.cell (World.block_lt_of_cell? w _ hx564_0)).trans hx564_0
     replace p564 := eq_true p564
     replace q564 := eq_true q564
     go_wp2_with (first | ((with_reducible refine gate_builtin (b := .append) (xs := #[.tmp 58, .tmp 60]) rfl ?_); at_builtin; refine Kd.R_append (Kd.int .i64) (w0 := w) w.heap.size rfl (.tmp 58) (.tmp 60) 22 3 (.int .i64 0) 8 rfl Try.underlying22 info3 rfl (by decide) (by omega) u3 x3_1 97 [.int .i64 97] (fun _ => True) (fun _ => False) rfl rfl ?aP (fun _ hk => hk.elim) ?aF ?aO ?aB ?aS ?aL ?_; (case aP => exact rfl); (case aB => exact (by repeat (first | (with_reducible first | exact HB.out | apply below_alloc | apply pw_below_drewN | apply below_drew1) | exact HB.out))); (case aF => exact (fun _ _ => trivial)); (case aO => exact (by (with_reducible repeat (first | apply Kd.R_alloc | apply Kd.R_drewN | apply Kd.R_drew)); exact HO_3.out)); (case aS => exact (below_size (by repeat (first | (with_reducible first | exact HB.out | apply below_alloc | apply pw_below_drewN | apply below_drew1) | exact HB.out)))); (case aL => have := LMc42.out; omega); intro v608 w44 ho hb hg hat; rw [← Ny607.out] at ho; have n0_ := Aside0.mk (Kd.R_over' (by (with_reducible repeat (first | apply Kd.R_alloc | apply Kd.R_drewN | apply Kd.R_drew)); exact HO_4.out) (Kd.R_typed (by (with_reducible repeat (first | apply Kd.R_alloc | apply Kd.R_drewN | apply Kd.R_drew)); exact HO_3.out)) (by decide) hg); have n1_ := Aside0.mk (hb); have n2_ := Aside0.mk (ho); clear HO_4; clear HB; clear HO_3; have HO_4 := n0_; have HB := n1_; have HO609 := n2_; clear n0_ n1_ n2_; clear ho hb hg hat) | ((with_reducible refine gate_builtin (b := .append) (xs := #[.tmp 62, .tmp 65]) rfl ?_); at_builtin; refine Kd.R_append (Kd.int .u8) (w0 := w) w.heap.size rfl (.tmp 62) (.tmp 65) 23 5 (.int .u8 0) 1 rfl Try.underlying23 info5 rfl (by decide) (by omega) u4 x4_1 97 [.int .u8 97] (fun _ => True) (fun _ => False) rfl rfl ?aP (fun _ hk => hk.elim) ?aF ?aO ?aB ?aS ?aL ?_; (case aP => exact rfl); (case aB => exact (by repeat (first | (with_reducible first | exact HB.out | apply below_alloc | apply pw_below_drewN | apply below_drew1) | exact HB.out))); (case aF => exact (fun _ _ => trivial)); (case aO => exact (by (with_reducible repeat (first | apply Kd.R_alloc | apply Kd.R_drewN | apply Kd.R_drew)); exact HO_4.out)); (case aS => exact (below_size (by repeat (first | (with_reducible first | exact HB.out | apply below_alloc | apply pw_below_drewN | apply below_drew1) | exact HB.out)))); (case aL => have := LMc43.out; omega); intro v611 w45 ho hb hg hat; rw [← Ny610.out] at ho; have n0_ := Aside0.mk (Kd.R_over' (by (with_reducible repeat (first | apply Kd.R_alloc | apply Kd.R_drewN | apply Kd.R_drew)); exact HO609.out) (Kd.R_typed (by (with_reducible repeat (first | apply Kd.R_alloc | apply Kd.R_drewN | apply Kd.R_drew)); exact HO_4.out)) (by decide) hg); have n1_ := Aside0.mk (hb); have n2_ := Aside0.mk (ho); clear HO609; clear HB; clear HO_4; have HO609 := n0_; have HB := n1_; have HO612 := n2_; clear n0_ n1_ n2_; clear ho hb hg hat))
     go_roundg k1
     case measure => have := HK1.out; omega
     case rel => exact ⟨(y607), (y610), (wrap64 (x5_1 + 1)), (by first | rfl | (simp; done) | (simp [*]; done)), H', ⟨by have := HK1.out; omega⟩, ⟨by (with_reducible repeat (first | apply Kd.R_alloc | apply Kd.R_drewN | apply Kd.R_drew)); exact HO609.out⟩, ⟨by (with_reducible repeat (first | apply Kd.R_alloc | apply Kd.R_drewN | apply Kd.R_drew)); exact HO612.out⟩, ⟨by repeat (first | (with_reducible first | exact HB.out | apply below_alloc | apply pw_below_drewN | apply below_drew1) | exact HB.out)⟩⟩
    rw [if_neg c41] at H
    have c41b0 : ((wrap64 (32 + (wrap64 (Int.tmod (IntKind.u64.wrap (rd l0 x5_1)) 91)))) == 92) = false := beq_eq_false_iff_ne.mpr c41
    have c41b1 : ((wrap64 (32 + (wrap64 (Int.tmod (IntKind.u64.wrap (rd l0 x5_1)) 91)))) != 92) = true := bne_iff_ne.mpr c41
    by_cases c46 : (wrap64 (32 + (wrap64 (Int.tmod (IntKind.u64.wrap (rd l0 x5_1)) 91)))) = 94
    ·rw [if_pos c46] at H
     have c46b0 : ((wrap64 (32 + (wrap64 (Int.tmod (IntKind.u64.wrap (rd l0 x5_1)) 91)))) == 94) = true := beq_iff_eq.mpr c46
     have c46b1 : ((wrap64 (32 + (wrap64 (Int.tmod (IntKind.u64.wrap (rd l0 x5_1)) 91)))) != 94) = false := bne_eq_false_iff_eq.mpr c46
     clear c46
     by_cases c47 : x3_1.length < 17592186044416
     rotate_left
     ·rw [if_neg c47] at H
      exact absurd H (by simp)
     rw [if_pos c47] at H
     have LMc47 := Aside0.mk c47
     clear c47
     obtain ⟨y613, hy613⟩ : ∃ y_ : List Int, y_ = (x3_1 ++ [97]) := ⟨_, rfl⟩
     replace H : (if x4_1.length < 140737488355328 then (sobriquetlaw18_TeletexPlain.l0 k1 l0 y613 (x4_1 ++ [97]) (wrap64 (x5_1 + 1))) else (none)) = some r := by first | (rw [hy613]; with_reducible exact H) | (have H2_ := (Option.bind_some _ _).symm.trans H; rw [hy613]; with_reducible exact H2_) | (have H2_ := (Option.bind_some _ _).symm.trans H; with_reducible exact H2_) | with_reducible exact H | (rw [hy613]; exact H) | exact H
     have Ny613 := Aside0.mk hy613
     clear hy613
     by_cases c48 : x4_1.length < 140737488355328
     rotate_left
     ·rw [if_neg c48] at H
      exact absurd H (by simp)
     rw [if_pos c48] at H
     have LMc48 := Aside0.mk c48
     clear c48
     obtain ⟨y616, hy616⟩ : ∃ y_ : List Int, y_ = (x4_1 ++ [97]) := ⟨_, rfl⟩
     replace H : (sobriquetlaw18_TeletexPlain.l0 k1 l0 y613 y616 (wrap64 (x5_1 + 1))) = some r := by first | (rw [hy616]; with_reducible exact H) | (have H2_ := (Option.bind_some _ _).symm.trans H; rw [hy616]; with_reducible exact H2_) | (have H2_ := (Option.bind_some _ _).symm.trans H; with_reducible exact H2_) | with_reducible exact H | (rw [hy616]; exact H) | exact H
     have Ny616 := Aside0.mk hy616
     clear hy616
     have H' := Aside0.mk H
     clear H
     have p564 : 0 ≤ (x5_1 : Int) := of_decide_eq_true (by first | (with_reducible assumption) | assumption)
     have q564 : x5_1 < (l0.length : Int) := of_decide_eq_true (by first | (with_reducible assumption) | assumption)
     obtain ⟨ad564, e564, hx564_0⟩ := Kd.at_int HR0.out x5_1 p564 q564
     cases e564
     replace hx564_0 := (HB.out.cell (World.block_lt_of_cell? w _ hx564_0)).trans hx564_0
     replace p564 := eq_true p564
     replace q564 := eq_true q564
     go_wp2_with (first | ((with_reducible refine gate_builtin (b := .append) (xs := #[.tmp 58, .tmp 60]) rfl ?_); at_builtin; refine Kd.R_append (Kd.int .i64) (w0 := w) w.heap.size rfl (.tmp 58) (.tmp 60) 22 3 (.int .i64 0) 8 rfl Try.underlying22 info3 rfl (by decide) (by omega) u3 x3_1 97 [.int .i64 97] (fun _ => True) (fun _ => False) rfl rfl ?aP (fun _ hk => hk.elim) ?aF ?aO ?aB ?aS ?aL ?_; (case aP => exact rfl); (case aB => exact (by repeat (first | (with_reducible first | exact HB.out | apply below_alloc | apply pw_below_drewN | apply below_drew1) | exact HB.out))); (case aF => exact (fun _ _ => trivial)); (case aO => exact (by (with_reducible repeat (first | apply Kd.R_alloc | apply Kd.R_drewN | apply Kd.R_drew)); exact HO_3.out)); (case aS => exact (below_size (by repeat (first | (with_reducible first | exact HB.out | apply below_alloc | apply pw_below_drewN | apply below_drew1) | exact HB.out)))); (case aL => have := LMc47.out; omega); intro v614 w49 ho hb hg hat; rw [← Ny613.out] at ho; have n0_ := Aside0.mk (Kd.R_over' (by (with_reducible repeat (first | apply Kd.R_alloc | apply Kd.R_drewN | apply Kd.R_drew)); exact HO_4.out) (Kd.R_typed (by (with_reducible repeat (first | apply Kd.R_alloc | apply Kd.R_drewN | apply Kd.R_drew)); exact HO_3.out)) (by decide) hg); have n1_ := Aside0.mk (hb); have n2_ := Aside0.mk (ho); clear HO_4; clear HB; clear HO_3; have HO_4 := n0_; have HB := n1_; have HO615 := n2_; clear n0_ n1_ n2_; clear ho hb hg hat) | ((with_reducible refine gate_builtin (b := .append) (xs := #[.tmp 62, .tmp 65]) rfl ?_); at_builtin; refine Kd.R_append (Kd.int .u8) (w0 := w) w.heap.size rfl (.tmp 62) (.tmp 65) 23 5 (.int .u8 0) 1 rfl Try.underlying23 info5 rfl (by decide) (by omega) u4 x4_1 97 [.int .u8 97] (fun _ => True) (fun _ => False) rfl rfl ?aP (fun _ hk => hk.elim) ?aF ?aO ?aB ?aS ?aL ?_; (case aP => exact rfl); (case aB => exact (by repeat (first | (with_reducible first | exact HB.out | apply below_alloc | apply pw_below_drewN | apply below_drew1) | exact HB.out))); (case aF => exact (fun _ _ => trivial)); (case aO => exact (by (with_reducible repeat (first | apply Kd.R_alloc | apply Kd.R_drewN | apply Kd.R_drew)); exact HO_4.out)); (case aS => exact (below_size (by repeat (first | (with_reducible first | exact HB.out | apply below_alloc | apply pw_below_drewN | apply below_drew1) | exact HB.out)))); (case aL => have := LMc48.out; omega); intro v617 w50 ho hb hg hat; rw [← Ny616.out] at ho; have n0_ := Aside0.mk (Kd.R_over' (by (with_reducible repeat (first | apply Kd.R_alloc | apply Kd.R_drewN | apply Kd.R_drew)); exact HO615.out) (Kd.R_typed (by (with_reducible repeat (first | apply Kd.R_alloc | apply Kd.R_drewN | apply Kd.R_drew)); exact HO_4.out)) (by decide) hg); have n1_ := Aside0.mk (hb); have n2_ := Aside0.mk (ho); clear HO615; clear HB; clear HO_4; have HO615 := n0_; have HB := n1_; have HO618 := n2_; clear n0_ n1_ n2_; clear ho hb hg hat))
     go_roundg k1
     case measure => have := HK1.out; omega
     case rel => exact ⟨(y613), (y616), (wrap64 (x5_1 + 1)), (by first | rfl | (simp; done) | (simp [*]; done)), H', ⟨by have := HK1.out; omega⟩, ⟨by (with_reducible repeat (first | apply Kd.R_alloc | apply Kd.R_drewN | apply Kd.R_drew)); exact HO615.out⟩, ⟨by (with_reducible repeat (first | apply Kd.R_alloc | apply Kd.R_drewN | apply Kd.R_drew)); exact HO618.out⟩, ⟨by repeat (first | (with_reducible first | exact HB.out | apply below_alloc | apply pw_below_drewN | apply below_drew1) | exact HB.out)⟩⟩
    rw [if_neg c46] at H
    have c46b0 : ((wrap64 (32 + (wrap64 (Int.tmod (IntKind.u64.wrap (rd l0 x5_1)) 91)))) == 94) = false := beq_eq_false_iff_ne.mpr c46
    have c46b1 : ((wrap64 (32 + (wrap64 (Int.tmod (IntKind.u64.wrap (rd l0 x5_1)) 91)))) != 94) = true := bne_iff_ne.mpr c46
    by_cases c51 : (wrap64 (32 + (wrap64 (Int.tmod (IntKind.u64.wrap (rd l0 x5_1)) 91)))) = 96
    ·rw [if_pos c51] at H
     have c51b0 : ((wrap64 (32 + (wrap64 (Int.tmod (IntKind.u64.wrap (rd l0 x5_1)) 91)))) == 96) = true := beq_iff_eq.mpr c51
     have c51b1 : ((wrap64 (32 + (wrap64 (Int.tmod (IntKind.u64.wrap (rd l0 x5_1)) 91)))) != 96) = false := bne_eq_false_iff_eq.mpr c51
     clear c51
     by_cases c52 : x3_1.length < 17592186044416
     rotate_left
     ·rw [if_neg c52] at H
      exact absurd H (by simp)
     rw [if_pos c52] at H
     have LMc52 := Aside0.mk c52
     clear c52
     obtain ⟨y619, hy619⟩ : ∃ y_ : List Int, y_ = (x3_1 ++ [97]) := ⟨_, rfl⟩
     replace H : (if x4_1.length < 140737488355328 then (sobriquetlaw18_TeletexPlain.l0 k1 l0 y619 (x4_1 ++ [97]) (wrap64 (x5_1 + 1))) else (none)) = some r := by first | (rw [hy619]; with_reducible exact H) | (have H2_ := (Option.bind_some _ _).symm.trans H; rw [hy619]; with_reducible exact H2_) | (have H2_ := (Option.bind_some _ _).symm.trans H; with_reducible exact H2_) | with_reducible exact H | (rw [hy619]; exact H) | exact H
     have Ny619 := Aside0.mk hy619
     clear hy619
     by_cases c53 : x4_1.length < 140737488355328
     rotate_left
     ·rw [if_neg c53] at H
      exact absurd H (by simp)
     rw [if_pos c53] at H
     have LMc53 := Aside0.mk c53
     clear c53
     obtain ⟨y622, hy622⟩ : ∃ y_ : List Int, y_ = (x4_1 ++ [97]) := ⟨_, rfl⟩
     replace H : (sobriquetlaw18_TeletexPlain.l0 k1 l0 y619 y622 (wrap64 (x5_1 + 1))) = some r := by first | (rw [hy622]; with_reducible exact H) | (have H2_ := (Option.bind_some _ _).symm.trans H; rw [hy622]; with_reducible exact H2_) | (have H2_ := (Option.bind_some _ _).symm.trans H; with_reducible exact H2_) | with_reducible exact H | (rw [hy622]; exact H) | exact H
     have Ny622 := Aside0.mk hy622
     clear hy622
     have H' := Aside0.mk H
     clear H
     have p564 : 0 ≤ (x5_1 : Int) := of_decide_eq_true (by first | (with_reducible assumption) | assumption)
     have q564 : x5_1 < (l0.length : Int) := of_decide_eq_true (by first | (with_reducible assumption) | assumption)
     obtain ⟨ad564, e564, hx564_0⟩ := Kd.at_int HR0.out x5_1 p564 q564
     cases e564
     replace hx564_0 := (HB.out.cell (World.block_lt_of_cell? w _ hx564_0)).trans hx564_0
     replace p564 := eq_true p564
     replace q564 := eq_true q564
     go_wp2_with (first | ((with_reducible refine gate_builtin (b := .append) (xs := #[.tmp 58, .tmp 60]) rfl ?_); at_builtin; refine Kd.R_append (Kd.int .i64) (w0 := w) w.heap.size rfl (.tmp 58) (.tmp 60) 22 3 (.int .i64 0) 8 rfl Try.underlying22 info3 rfl (by decide) (by omega) u3 x3_1 97 [.int .i64 97] (fun _ => True) (fun _ => False) rfl rfl ?aP (fun _ hk => hk.elim) ?aF ?aO ?aB ?aS ?aL ?_; (case aP => exact rfl); (case aB => exact (by repeat (first | (with_reducible first | exact HB.out | apply below_alloc | apply pw_below_drewN | apply below_drew1) | exact HB.out))); (case aF => exact (fun _ _ => trivial)); (case aO => exact (by (with_reducible repeat (first | apply Kd.R_alloc | apply Kd.R_drewN | apply Kd.R_drew)); exact HO_3.out)); (case aS => exact (below_size (by repeat (first | (with_reducible first | exact HB.out | apply below_alloc | apply pw_below_drewN | apply below_drew1) | exact HB.out)))); (case aL => have := LMc52.out; omega); intro v620 w54 ho hb hg hat; rw [← Ny619.out] at ho; have n0_ := Aside0.mk (Kd.R_over' (by (with_reducible repeat (first | apply Kd.R_alloc | apply Kd.R_drewN | apply Kd.R_drew)); exact HO_4.out) (Kd.R_typed (by (with_reducible repeat (first | apply Kd.R_alloc | apply Kd.R_drewN | apply Kd.R_drew)); exact HO_3.out)) (by decide) hg); have n1_ := Aside0.mk (hb); have n2_ := Aside0.mk (ho); clear HO_4; clear HB; clear HO_3; have HO_4 := n0_; have HB := n1_; have HO621 := n2_; clear n0_ n1_ n2_; clear ho hb hg hat) | ((with_reducible refine gate_builtin (b := .append) (xs := #[.tmp 62, .tmp 65]) rfl ?_); at_builtin; refine Kd.R_append (Kd.int .u8) (w0 := w) w.heap.size rfl (.tmp 62) (.tmp 65) 23 5 (.int .u8 0) 1 rfl Try.underlying23 info5 rfl (by decide) (by omega) u4 x4_1 97 [.int .u8 97] (fun _ => True) (fun _ => False) rfl rfl ?aP (fun _ hk => hk.elim) ?aF ?aO ?aB ?aS ?aL ?_; (case aP => exact rfl); (case aB => exact (by repeat (first | (with_reducible first | exact HB.out | apply below_alloc | apply pw_below_drewN | apply below_drew1) | exact HB.out))); (case aF => exact (fun _ _ => trivial)); (case aO => exact (by (with_reducible repeat (first | apply Kd.R_alloc | apply Kd.R_drewN | apply Kd.R_drew)); exact HO_4.out)); (case aS => exact (below_size (by repeat (first | (with_reducible first | exact HB.out | apply below_alloc | apply pw_below_drewN | apply below_drew1) | exact HB.out)))); (case aL => have := LMc53.out; omega); intro v623 w55 ho hb hg hat; rw [← Ny622.out] at ho; have n0_ := Aside0.mk (Kd.R_over' (by (with_reducible repeat (first | apply Kd.R_alloc | apply Kd.R_drewN | apply Kd.R_drew)); exact HO621.out) (Kd.R_typed (by (with_reducible repeat (first | apply Kd.R_alloc | apply Kd.R_drewN | apply Kd.R_drew)); exact HO_4.out)) (by decide) hg); have n1_ := Aside0.mk (hb); have n2_ := Aside0.mk (ho); clear HO621; clear HB; clear HO_4; have HO621 := n0_; have HB := n1_; have HO624 := n2_; clear n0_ n1_ n2_; clear ho hb hg hat))
     go_roundg k1
     case measure => have := HK1.out; omega
     case rel => exact ⟨(y619), (y622), (wrap64 (x5_1 + 1)), (by first | rfl | (simp; done) | (simp [*]; done)), H', ⟨by have := HK1.out; omega⟩, ⟨by (with_reducible repeat (first | apply Kd.R_alloc | apply Kd.R_drewN | apply Kd.R_drew)); exact HO621.out⟩, ⟨by (with_reducible repeat (first | apply Kd.R_alloc | apply Kd.R_drewN | apply Kd.R_drew)); exact HO624.out⟩, ⟨by repeat (first | (with_reducible first | exact HB.out | apply below_alloc | apply pw_below_drewN | apply below_drew1) | exact HB.out)⟩⟩
    rw [if_neg c51] at H
    have c51b0 : ((wrap64 (32 + (wrap64 (Int.tmod (IntKind.u64.wrap (rd l0 x5_1)) 91)))) == 96) = false := beq_eq_false_iff_ne.mpr c51
    have c51b1 : ((wrap64 (32 + (wrap64 (Int.tmod (IntKind.u64.wrap (rd l0 x5_1)) 91)))) != 96) = true := bne_iff_ne.mpr c51
    by_cases c56 : (wrap64 (32 + (wrap64 (Int.tmod (IntKind.u64.wrap (rd l0 x5_1)) 91)))) > 122
    ·rw [if_pos c56] at H
     have c56b0 : decide (122 < (wrap64 (32 + (wrap64 (Int.tmod (IntKind.u64.wrap (rd l0 x5_1)) 91))))) = true := decide_eq_true c56
     clear c56
     by_cases c57 : x3_1.length < 17592186044416
     rotate_left
     ·rw [if_neg c57] at H
      exact absurd H (by simp)
     rw [if_pos c57] at H
     have LMc57 := Aside0.mk c57
     clear c57
     obtain ⟨y625, hy625⟩ : ∃ y_ : List Int, y_ = (x3_1 ++ [97]) := ⟨_, rfl⟩
     replace H : (if x4_1.length < 140737488355328 then (sobriquetlaw18_TeletexPlain.l0 k1 l0 y625 (x4_1 ++ [97]) (wrap64 (x5_1 + 1))) else (none)) = some r := by first | (rw [hy625]; with_reducible exact H) | (have H2_ := (Option.bind_some _ _).symm.trans H; rw [hy625]; with_reducible exact H2_) | (have H2_ := (Option.bind_some _ _).symm.trans H; with_reducible exact H2_) | with_reducible exact H | (rw [hy625]; exact H) | exact H
     have Ny625 := Aside0.mk hy625
     clear hy625
     by_cases c58 : x4_1.length < 140737488355328
     rotate_left
     ·rw [if_neg c58] at H
      exact absurd H (by simp)
     rw [if_pos c58] at H
     have LMc58 := Aside0.mk c58
     clear c58
     obtain ⟨y628, hy628⟩ : ∃ y_ : List Int, y_ = (x4_1 ++ [97]) := ⟨_, rfl⟩
     replace H : (sobriquetlaw18_TeletexPlain.l0 k1 l0 y625 y628 (wrap64 (x5_1 + 1))) = some r := by first | (rw [hy628]; with_reducible exact H) | (have H2_ := (Option.bind_some _ _).symm.trans H; rw [hy628]; with_reducible exact H2_) | (have H2_ := (Option.bind_some _ _).symm.trans H; with_reducible exact H2_) | with_reducible exact H | (rw [hy628]; exact H) | exact H
     have Ny628 := Aside0.mk hy628
     clear hy628
     have H' := Aside0.mk H
     clear H
     have p564 : 0 ≤ (x5_1 : Int) := of_decide_eq_true (by first | (with_reducible assumption) | assumption)
     have q564 : x5_1 < (l0.length : Int) := of_decide_eq_true (by first | (with_reducible assumption) | assumption)
     obtain ⟨ad564, e564, hx564_0⟩ := Kd.at_int HR0.out x5_1 p564 q564
     cases e564
     replace hx564_0 := (HB.out.cell (World.block_lt_of_cell? w _ hx564_0)).trans hx564_0
     replace p564 := eq_true p564
     replace q564 := eq_true q564
     go_wp2_with (first | ((with_reducible refine gate_builtin (b := .append) (xs := #[.tmp 58, .tmp 60]) rfl ?_); at_builtin; refine Kd.R_append (Kd.int .i64) (w0 := w) w.heap.size rfl (.tmp 58) (.tmp 60) 22 3 (.int .i64 0) 8 rfl Try.underlying22 info3 rfl (by decide) (by omega) u3 x3_1 97 [.int .i64 97] (fun _ => True) (fun _ => False) rfl rfl ?aP (fun _ hk => hk.elim) ?aF ?aO ?aB ?aS ?aL ?_; (case aP => exact rfl); (case aB => exact (by repeat (first | (with_reducible first | exact HB.out | apply below_alloc | apply pw_below_drewN | apply below_drew1) | exact HB.out))); (case aF => exact (fun _ _ => trivial)); (case aO => exact (by (with_reducible repeat (first | apply Kd.R_alloc | apply Kd.R_drewN | apply Kd.R_drew)); exact HO_3.out)); (case aS => exact (below_size (by repeat (first | (with_reducible first | exact HB.out | apply below_alloc | apply pw_below_drewN | apply below_drew1) | exact HB.out)))); (case aL => have := LMc57.out; omega); intro v626 w59 ho hb hg hat; rw [← Ny625.out] at ho; have n0_ := Aside0.mk (Kd.R_over' (by (with_reducible repeat (first | apply Kd.R_alloc | apply Kd.R_drewN | apply Kd.R_drew)); exact HO_4.out) (Kd.R_typed (by (with_reducible repeat (first | apply Kd.R_alloc | apply Kd.R_drewN | apply Kd.R_drew)); exact HO_3.out)) (by decide) hg); have n1_ := Aside0.mk (hb); have n2_ := Aside0.mk (ho); clear HO_4; clear HB; clear HO_3; have HO_4 := n0_; have HB := n1_; have HO627 := n2_; clear n0_ n1_ n2_; clear ho hb hg hat) | ((with_reducible refine gate_builtin (b := .append) (xs := #[.tmp 62, .tmp 65]) rfl ?_); at_builtin; refine Kd.R_append (Kd.int .u8) (w0 := w) w.heap.size rfl (.tmp 62) (.tmp 65) 23 5 (.int .u8 0) 1 rfl Try.underlying23 info5 rfl (by decide) (by omega) u4 x4_1 97 [.int .u8 97] (fun _ => True) (fun _ => False) rfl rfl ?aP (fun _ hk => hk.elim) ?aF ?aO ?aB ?aS ?aL ?_; (case aP => exact rfl); (case aB => exact (by repeat (first | (with_reducible first | exact HB.out | apply below_alloc | apply pw_below_drewN | apply below_drew1) | exact HB.out))); (case aF => exact (fun _ _ => trivial)); (case aO => exact (by (with_reducible repeat (first | apply Kd.R_alloc | apply Kd.R_drewN | apply Kd.R_drew)); exact HO_4.out)); (case aS => exact (below_size (by repeat (first | (with_reducible first | exact HB.out | apply below_alloc | apply pw_below_drewN | apply below_drew1) | exact HB.out)))); (case aL => have := LMc58.out; omega); intro v629 w60 ho hb hg hat; rw [← Ny628.out] at ho; have n0_ := Aside0.mk (Kd.R_over' (by (with_reducible repeat (first | apply Kd.R_alloc | apply Kd.R_drewN | apply Kd.R_drew)); exact HO627.out) (Kd.R_typed (by (with_reducible repeat (first | apply Kd.R_alloc | apply Kd.R_drewN | apply Kd.R_drew)); exact HO_4.out)) (by decide) hg); have n1_ := Aside0.mk (hb); have n2_ := Aside0.mk (ho); clear HO627; clear HB; clear HO_4; have HO627 := n0_; have HB := n1_; have HO630 := n2_; clear n0_ n1_ n2_; clear ho hb hg hat))
     go_roundg k1
     case measure => have := HK1.out; omega
     case rel => exact ⟨(y625), (y628), (wrap64 (x5_1 + 1)), (by first | rfl | (simp; done) | (simp [*]; done)), H', ⟨by have := HK1.out; omega⟩, ⟨by (with_reducible repeat (first | apply Kd.R_alloc | apply Kd.R_drewN | apply Kd.R_drew)); exact HO627.out⟩, ⟨by (with_reducible repeat (first | apply Kd.R_alloc | apply Kd.R_drewN | apply Kd.R_drew)); exact HO630.out⟩, ⟨by repeat (first | (with_reducible first | exact HB.out | apply below_alloc | apply pw_below_drewN | apply below_drew1) | exact HB.out)⟩⟩
    rw [if_neg c56] at H
    have c56b0 : decide (122 < (wrap64 (32 + (wrap64 (Int.tmod (IntKind.u64.wrap (rd l0 x5_1)) 91))))) = false := decide_eq_false c56
    clear c56
    by_cases c61 : x3_1.length < 17592186044416
    rotate_left
    ·rw [if_neg c61] at H
     exact absurd H (by simp)
    rw [if_pos c61] at H
    have LMc61 := Aside0.mk c61
    clear c61
    obtain ⟨y631, hy631⟩ : ∃ y_ : List Int, y_ = (x3_1 ++ [wrap64 (32 + (wrap64 (Int.tmod (IntKind.u64.wrap (rd l0 x5_1)) 91)))]) := ⟨_, rfl⟩
    replace H : (if x4_1.length < 140737488355328 then (sobriquetlaw18_TeletexPlain.l0 k1 l0 y631 (x4_1 ++ [(wrap64 (32 + (wrap64 (Int.tmod (IntKind.u64.wrap (rd l0 x5_1)) 91)))) % 256]) (wrap64 (x5_1 + 1))) else (none)) = some r := by first | (rw [hy631]; with_reducible exact H) | (have H2_ := (Option.bind_some _ _).symm.trans H; rw [hy631]; with_reducible exact H2_) | (have H2_ := (Option.bind_some _ _).symm.trans H; with_reducible exact H2_) | with_reducible exact H | (rw [hy631]; exact H) | exact H
    have Ny631 := Aside0.mk hy631
    clear hy631
    by_cases c62 : x4_1.length < 140737488355328
    rotate_left
    ·rw [if_neg c62] at H
     exact absurd H (by simp)
    rw [if_pos c62] at H
    have LMc62 := Aside0.mk c62
    clear c62
    obtain ⟨y634, hy634⟩ : ∃ y_ : List Int, y_ = (x4_1 ++ [(wrap64 (32 + (wrap64 (Int.tmod (IntKind.u64.wrap (rd l0 x5_1)) 91)))) % 256]) := ⟨_, rfl⟩
    replace H : (sobriquetlaw18_TeletexPlain.l0 k1 l0 y631 y634 (wrap64 (x5_1 + 1))) = some r := by first | (rw [hy634]; with_reducible exact H) | (have H2_ := (Option.bind_some _ _).symm.trans H; rw [hy634]; with_reducible exact H2_) | (have H2_ := (Option.bind_some _ _).symm.trans H; with_reducible exact H2_) | with_reducible exact H | (rw [hy634]; exact H) | exact H
    have Ny634 := Aside0.mk hy634
    clear hy634
    have H' := Aside0.mk H
    clear H
    have p564 : 0 ≤ (x5_1 : Int) := of_decide_eq_true (by first | (with_reducible assumption) | assumption)
    have q564 : x5_1 < (l0.length : Int) := of_decide_eq_true (by first | (with_reducible assumption) | assumption)
    obtain ⟨ad564, e564, hx564_0⟩ := Kd.at_int HR0.out x5_1 p564 q564
    cases e564
    replace hx564_0 := (HB.out.cell (World.block_lt_of_cell? w _ hx564_0)).trans hx564_0
    replace p564 := eq_true p564
    replace q564 := eq_true q564
    go_wp2_with (first | ((with_reducible refine gate_builtin (b := .append) (xs := #[.tmp 58, .tmp 60]) rfl ?_); at_builtin; refine Kd.R_append (Kd.int .i64) (w0 := w) w.heap.size rfl (.tmp 58) (.tmp 60) 22 3 (.int .i64 0) 8 rfl Try.underlying22 info3 rfl (by decide) (by omega) u3 x3_1 (wrap64 (32 + (wrap64 (Int.tmod (IntKind.u64.wrap (rd l0 x5_1)) 91)))) [.int .i64 (wrap64 (32 + (wrap64 (Int.tmod (IntKind.u64.wrap (rd l0 x5_1)) 91))))] (fun _ => True) (fun _ => False) rfl rfl ?aP (fun _ hk => hk.elim) ?aF ?aO ?aB ?aS ?aL ?_; (case aP => exact rfl); (case aB => exact (by repeat (first | (with_reducible first | exact HB.out | apply below_alloc | apply pw_below_drewN | apply below_drew1) | exact HB.out))); (case aF => exact (fun _ _ => trivial)); (case aO => exact (by (with_reducible repeat (first | apply Kd.R_alloc | apply Kd.R_drewN | apply Kd.R_drew)); exact HO_3.out)); (case aS => exact (below_size (by repeat (first | (with_reducible first | exact HB.out | apply below_alloc | apply pw_below_drewN | apply below_drew1) | exact HB.out)))); (case aL => have := LMc61.out; omega); intro v632 w63 ho hb hg hat; rw [← Ny631.out] at ho; have n0_ := Aside0.mk (Kd.R_over' (by (with_reducible repeat (first | apply Kd.R_alloc | apply Kd.R_drewN | apply Kd.R_drew)); exact HO_4.out) (Kd.R_typed (by (with_reducible repeat (first | apply Kd.R_alloc | apply Kd.R_drewN | apply Kd.R_drew)); exact HO_3.out)) (by decide) hg); have n1_ := Aside0.mk (hb); have n2_ := Aside0.mk (ho); clear HO_4; clear HB; clear HO_3; have HO_4 := n0_; have HB := n1_; have HO633 := n2_; clear n0_ n1_ n2_; clear ho hb hg hat) | ((with_reducible refine gate_builtin (b := .append) (xs := #[.tmp 62, .tmp 65]) rfl ?_); at_builtin; refine Kd.R_append (Kd.int .u8) (w0 := w) w.heap.size rfl (.tmp 62) (.tmp 65) 23 5 (.int .u8 0) 1 rfl Try.underlying23 info5 rfl (by decide) (by omega) u4 x4_1 ((wrap64 (32 + (wrap64 (Int.tmod (IntKind.u64.wrap (rd l0 x5_1)) 91)))) % 256) [.int .u8 ((wrap64 (32 + (wrap64 (Int.tmod (IntKind.u64.wrap (rd l0 x5_1)) 91)))) % 256)] (fun _ => True) (fun _ => False) rfl rfl ?aP (fun _ hk => hk.elim) ?aF ?aO ?aB ?aS ?aL ?_; (case aP => exact rfl); (case aB => exact (by repeat (first | (with_reducible first | exact HB.out | apply below_alloc | apply pw_below_drewN | apply below_drew1) | exact HB.out))); (case aF => exact (fun _ _ => trivial)); (case aO => exact (by (with_reducible repeat (first | apply Kd.R_alloc | apply Kd.R_drewN | apply Kd.R_drew)); exact HO_4.out)); (case aS => exact (below_size (by repeat (first | (with_reducible first | exact HB.out | apply below_alloc | apply pw_below_drewN | apply below_drew1) | exact HB.out)))); (case aL => have := LMc62.out; omega); intro v635 w64 ho hb hg hat; rw [← Ny634.out] at ho; have n0_ := Aside0.mk (Kd.R_over' (by (with_reducible repeat (first | apply Kd.R_alloc | apply Kd.R_drewN | apply Kd.R_drew)); exact HO633.out) (Kd.R_typed (by (with_reducible repeat (first | apply Kd.R_alloc | apply Kd.R_drewN | apply Kd.R_drew)); exact HO_4.out)) (by decide) hg); have n1_ := Aside0.mk (hb); have n2_ := Aside0.mk (ho); clear HO633; clear HB; clear HO_4; have HO633 := n0_; have HB := n1_; have HO636 := n2_; clear n0_ n1_ n2_; clear ho hb hg hat))
    go_roundg k1
    case measure => have := HK1.out; omega
    case rel => exact ⟨(y631), (y634), (wrap64 (x5_1 + 1)), (by first | rfl | (simp; done) | (simp [*]; done)), H', ⟨by have := HK1.out; omega⟩, ⟨by (with_reducible repeat (first | apply Kd.R_alloc | apply Kd.R_drewN | apply Kd.R_drew)); exact HO633.out⟩, ⟨by (with_reducible repeat (first | apply Kd.R_alloc | apply Kd.R_drewN | apply Kd.R_drew)); exact HO636.out⟩, ⟨by repeat (first | (with_reducible first | exact HB.out | apply below_alloc | apply pw_below_drewN | apply below_drew1) | exact HB.out)⟩⟩
   rw [if_pos c11] at H
   have c11b0 : decide (58 ≤ (wrap64 (32 + (wrap64 (Int.tmod (IntKind.u64.wrap (rd l0 x5_1)) 91))))) = true := decide_eq_true c11
   clear c11
   by_cases c12 : (wrap64 (32 + (wrap64 (Int.tmod (IntKind.u64.wrap (rd l0 x5_1)) 91)))) ≤ 64
   ·rw [if_pos c12] at H
    have c12b0 : decide ((wrap64 (32 + (wrap64 (Int.tmod (IntKind.u64.wrap (rd l0 x5_1)) 91)))) ≤ 64) = true := decide_eq_true c12
    clear c12
    by_cases c13 : x3_1.length < 17592186044416
    rotate_left
    ·rw [if_neg c13] at H
     exact absurd H (by simp)
    rw [if_pos c13] at H
    have LMc13 := Aside0.mk c13
    clear c13
    obtain ⟨y571, hy571⟩ : ∃ y_ : List Int, y_ = (x3_1 ++ [97]) := ⟨_, rfl⟩
    replace H : (if x4_1.length < 140737488355328 then (sobriquetlaw18_TeletexPlain.l0 k1 l0 y571 (x4_1 ++ [97]) (wrap64 (x5_1 + 1))) else (none)) = some r := by first | (rw [hy571]; with_reducible exact H) | (have H2_ := (Option.bind_some _ _).symm.trans H; rw [hy571]; with_reducible exact H2_) | (have H2_ := (Option.bind_some _ _).symm.trans H; with_reducible exact H2_) | with_reducible exact H | (rw [hy571]; exact H) | exact H
    have Ny571 := Aside0.mk hy571
    clear hy571
    by_cases c14 : x4_1.length < 140737488355328
    rotate_left
    ·rw [if_neg c14] at H
     exact absurd H (by simp)
    rw [if_pos c14] at H
    have LMc14 := Aside0.mk c14
    clear c14
    obtain ⟨y574, hy574⟩ : ∃ y_ : List Int, y_ = (x4_1 ++ [97]) := ⟨_, rfl⟩
    replace H : (sobriquetlaw18_TeletexPlain.l0 k1 l0 y571 y574 (wrap64 (x5_1 + 1))) = some r := by first | (rw [hy574]; with_reducible exact H) | (have H2_ := (Option.bind_some _ _).symm.trans H; rw [hy574]; with_reducible exact H2_) | (have H2_ := (Option.bind_some _ _).symm.trans H; with_reducible exact H2_) | with_reducible exact H | (rw [hy574]; exact H) | exact H
    have Ny574 := Aside0.mk hy574
    clear hy574
    have H' := Aside0.mk H
    clear H
    have p564 : 0 ≤ (x5_1 : Int) := of_decide_eq_true (by first | (with_reducible assumption) | assumption)
    have q564 : x5_1 < (l0.length : Int) := of_decide_eq_true (by first | (with_reducible assumption) | assumption)
    obtain ⟨ad564, e564, hx564_0⟩ := Kd.at_int HR0.out x5_1 p564 q564
    cases e564
    replace hx564_0 := (HB.out.cell (World.block_lt_of_cell? w _ hx564_0)).trans hx564_0
    replace p564 := eq_true p564
    replace q564 := eq_true q564
    go_wp2_with (first | ((with_reducible refine gate_builtin (b := .append) (xs := #[.tmp 58, .tmp 60]) rfl ?_); at_builtin; refine Kd.R_append (Kd.int .i64) (w0 := w) w.heap.size rfl (.tmp 58) (.tmp 60) 22 3 (.int .i64 0) 8 rfl Try.underlying22 info3 rfl (by decide) (by omega) u3 x3_1 97 [.int .i64 97] (fun _ => True) (fun _ => False) rfl rfl ?aP (fun _ hk => hk.elim) ?aF ?aO ?aB ?aS ?aL ?_; (case aP => exact rfl); (case aB => exact (by repeat (first | (with_reducible first | exact HB.out | apply below_alloc | apply pw_below_drewN | apply below_drew1) | exact HB.out))); (case aF => exact (fun _ _ => trivial)); (case aO => exact (by (with_reducible repeat (first | apply Kd.R_alloc | apply Kd.R_drewN | apply Kd.R_drew)); exact HO_3.out)); (case aS => exact (below_size (by repeat (first | (with_reducible first | exact HB.out | apply below_alloc | apply pw_below_drewN | apply below_drew1) | exact HB.out)))); (case aL => have := LMc13.out; omega); intro v572 w15 ho hb hg hat; rw [← Ny571.out] at ho; have n0_ := Aside0.mk (Kd.R_over' (by (with_reducible repeat (first | apply Kd.R_alloc | apply Kd.R_drewN | apply Kd.R_drew)); exact HO_4.out) (Kd.R_typed (by (with_reducible repeat (first | apply Kd.R_alloc | apply Kd.R_drewN | apply Kd.R_drew)); exact HO_3.out)) (by decide) hg); have n1_ := Aside0.mk (hb); have n2_ := Aside0.mk (ho); clear HO_4; clear HB; clear HO_3; have HO_4 := n0_; have HB := n1_; have HO573 := n2_; clear n0_ n1_ n2_; clear ho hb hg hat) | ((with_reducible refine gate_builtin (b := .append) (xs := #[.tmp 62, .tmp 65]) rfl ?_); at_builtin; refine Kd.R_append (Kd.int .u8) (w0 := w) w.heap.size rfl (.tmp 62) (.tmp 65) 23 5 (.int .u8 0) 1 rfl Try.underlying23 info5 rfl (by decide) (by omega) u4 x4_1 97 [.int .u8 97] (fun _ => True) (fun _ => False) rfl rfl ?aP (fun _ hk => hk.elim) ?aF ?aO ?aB ?aS ?aL ?_; (case aP => exact rfl); (case aB => exact (by repeat (first | (with_reducible first | exact HB.out | apply below_alloc | apply pw_below_drewN | apply below_drew1) | exact HB.out))); (case aF => exact (fun _ _ => trivial)); (case aO => exact (by (with_reducible repeat (first | apply Kd.R_alloc | apply Kd.R_drewN | apply Kd.R_drew)); exact HO_4.out)); (case aS => exact (below_size (by repeat (first | (with_reducible first | exact HB.out | apply below_alloc | apply pw_below_drewN | apply below_drew1) | exact HB.out)))); (case aL => have := LMc14.out; omega); intro v575 w16 ho hb hg hat; rw [← Ny574.out] at ho; have n0_ := Aside0.mk (Kd.R_over' (by (with_reducible repeat (first | apply Kd.R_alloc | apply Kd.R_drewN | apply Kd.R_drew)); exact HO573.out) (Kd.R_typed (by (with_reducible repeat (first | apply Kd.R_alloc | apply Kd.R_drewN | apply Kd.R_drew)); exact HO_4.out)) (by decide) hg); have n1_ := Aside0.mk (hb); have n2_ := Aside0.mk (ho); clear HO573; clear HB; clear HO_4; have HO573 := n0_; have HB := n1_; have HO576 := n2_; clear n0_ n1_ n2_; clear ho hb hg hat))
    go_roundg k1
    case measure => have := HK1.out; omega
    case rel => exact ⟨(y571), (y574), (wrap64 (x5_1 + 1)), (by first | rfl | (simp; done) | (simp [*]; done)), H', ⟨by have := HK1.out; omega⟩, ⟨by (with_reducible repeat (first | apply Kd.R_alloc | apply Kd.R_drewN | apply Kd.R_drew)); exact HO573.out⟩, ⟨by (with_reducible repeat (first | apply Kd.R_alloc | apply Kd.R_drewN | apply Kd.R_drew)); exact HO576.out⟩, ⟨by repeat (first | (with_reducible first | exact HB.out | apply below_alloc | apply pw_below_drewN | apply below_drew1) | exact HB.out)⟩⟩
   rw [if_neg c12] at H
   have c12b0 : decide ((wrap64 (32 + (wrap64 (Int.tmod (IntKind.u64.wrap (rd l0 x5_1)) 91)))) ≤ 64) = false := decide_eq_false c12
   clear c12
   by_cases c17 : (wrap64 (32 + (wrap64 (Int.tmod (IntKind.u64.wrap (rd l0 x5_1)) 91)))) = 92
   ·rw [if_pos c17] at H
    have c17b0 : ((wrap64 (32 + (wrap64 (Int.tmod (IntKind.u64.wrap (rd l0 x5_1)) 91)))) == 92) = true := beq_iff_eq.mpr c17
    have c17b1 : ((wrap64 (32 + (wrap64 (Int.tmod (IntKind.u64.wrap (rd l0 x5_1)) 91)))) != 92) = false := bne_eq_false_iff_eq.mpr c17
    clear c17
    by_cases c18 : x3_1.length < 17592186044416
    rotate_left
    ·rw [if_neg c18] at H
     exact absurd H (by simp)
    rw [if_pos c18] at H
    have LMc18 := Aside0.mk c18
    clear c18
    obtain ⟨y577, hy577⟩ : ∃ y_ : List Int, y_ = (x3_1 ++ [97]) := ⟨_, rfl⟩
    replace H : (if x4_1.length < 140737488355328 then (sobriquetlaw18_TeletexPlain.l0 k1 l0 y577 (x4_1 ++ [97]) (wrap64 (x5_1 + 1))) else (none)) = some r := by first | (rw [hy577]; with_reducible exact H) | (have H2_ := (Option.bind_some _ _).symm.trans H; rw [hy577]; with_reducible exact H2_) | (have H2_ := (Option.bind_some _ _).symm.trans H; with_reducible exact H2_) | with_reducible exact H | (rw [hy577]; exact H) | exact H
    have Ny577 := Aside0.mk hy577
    clear hy577
    by_cases c19 : x4_1.length < 140737488355328
    rotate_left
    ·rw [if_neg c19] at H
     exact absurd H (by simp)
    rw [if_pos c19] at H
    have LMc19 := Aside0.mk c19
    clear c19
    obtain ⟨y580, hy580⟩ : ∃ y_ : List Int, y_ = (x4_1 ++ [97]) := ⟨_, rfl⟩
    replace H : (sobriquetlaw18_TeletexPlain.l0 k1 l0 y577 y580 (wrap64 (x5_1 + 1))) = some r := by first | (rw [hy580]; with_reducible exact H) | (have H2_ := (Option.bind_some _ _).symm.trans H; rw [hy580]; with_reducible exact H2_) | (have H2_ := (Option.bind_some _ _).symm.trans H; with_reducible exact H2_) | with_reducible exact H | (rw [hy580]; exact H) | exact H
    have Ny580 := Aside0.mk hy580
    clear hy580
    have H' := Aside0.mk H
    clear H
    have p564 : 0 ≤ (x5_1 : Int) := of_decide_eq_true (by first | (with_reducible assumption) | assumption)
    have q564 : x5_1 < (l0.length : Int) := of_decide_eq_true (by first | (with_reducible assumption) | assumption)
    obtain ⟨ad564, e564, hx564_0⟩ := Kd.at_int HR0.out x5_1 p564 q564
    cases e564
    replace hx564_0 := (HB.out.cell (World.block_lt_of_cell? w _ hx564_0)).trans hx564_0
    replace p564 := eq_true p564
    replace q564 := eq_true q564
    go_wp2_with (first | ((with_reducible refine gate_builtin (b := .append) (xs := #[.tmp 58, .tmp 60]) rfl ?_); at_builtin; refine Kd.R_append (Kd.int .i64) (w0 := w) w.heap.size rfl (.tmp 58) (.tmp 60) 22 3 (.int .i64 0) 8 rfl Try.underlying22 info3 rfl (by decide) (by omega) u3 x3_1 97 [.int .i64 97] (fun _ => True) (fun _ => False) rfl rfl ?aP (fun _ hk => hk.elim) ?aF ?aO ?aB ?aS ?aL ?_; (case aP => exact rfl); (case aB => exact (by repeat (first | (with_reducible first | exact HB.out | apply below_alloc | apply pw_below_drewN | apply below_drew1) | exact HB.out))); (case aF => exact (fun _ _ => trivial)); (case aO => exact (by (with_reducible repeat (first | apply Kd.R_alloc | apply Kd.R_drewN | apply Kd.R_drew)); exact HO_3.out)); (case aS => exact (below_size (by repeat (first | (with_reducible first | exact HB.out | apply below_alloc | apply pw_below_drewN | apply below_drew1) | exact HB.out)))); (case aL => have := LMc18.out; omega); intro v578 w20 ho hb hg hat; rw [← Ny577.out] at ho; have n0_ := Aside0.mk (Kd.R_over' (by (with_reducible repeat (first | apply Kd.R_alloc | apply Kd.R_drewN | apply Kd.R_drew)); exact HO_4.out) (Kd.R_typed (by (with_reducible repeat (first | apply Kd.R_alloc | apply Kd.R_drewN | apply Kd.R_drew)); exact HO_3.out)) (by decide) hg); have n1_ := Aside0.mk (hb); have n2_ := Aside0.mk (ho); clear HO_4; clear HB; clear HO_3; have HO_4 := n0_; have HB := n1_; have HO579 := n2_; clear n0_ n1_ n2_; clear ho hb hg hat) | ((with_reducible refine gate_builtin (b := .append) (xs := #[.tmp 62, .tmp 65]) rfl ?_); at_builtin; refine Kd.R_append (Kd.int .u8) (w0 := w) w.heap.size rfl (.tmp 62) (.tmp 65) 23 5 (.int .u8 0) 1 rfl Try.underlying23 info5 rfl (by decide) (by omega) u4 x4_1 97 [.int .u8 97] (fun _ => True) (fun _ => False) rfl rfl ?aP (fun _ hk => hk.elim) ?aF ?aO ?aB ?aS ?aL ?_; (case aP => exact rfl); (case aB => exact (by repeat (first | (with_reducible first | exact HB.out | apply below_alloc | apply pw_below_drewN | apply below_drew1) | exact HB.out))); (case aF => exact (fun _ _ => trivial)); (case aO => exact (by (with_reducible repeat (first | apply Kd.R_alloc | apply Kd.R_drewN | apply Kd.R_drew)); exact HO_4.out)); (case aS => exact (below_size (by repeat (first | (with_reducible first | exact HB.out | apply below_alloc | apply pw_below_drewN | apply below_drew1) | exact HB.out)))); (case aL => have := LMc19.out; omega); intro v581 w21 ho hb hg hat; rw [← Ny580.out] at ho; have n0_ := Aside0.mk (Kd.R_over' (by (with_reducible repeat (first | apply Kd.R_alloc | apply Kd.R_drewN | apply Kd.R_drew)); exact HO579.out) (Kd.R_typed (by (with_reducible repeat (first | apply Kd.R_alloc | apply Kd.R_drewN | apply Kd.R_drew)); exact HO_4.out)) (by decide) hg); have n1_ := Aside0.mk (hb); have n2_ := Aside0.mk (ho); clear HO579; clear HB; clear HO_4; have HO579 := n0_; have HB := n1_; have HO582 := n2_; clear n0_ n1_ n2_; clear ho hb hg hat))
    go_roundg k1
    case measure => have := HK1.out; omega
    case rel => exact ⟨(y577), (y580), (wrap64 (x5_1 + 1)), (by first | rfl | (simp; done) | (simp [*]; done)), H', ⟨by have := HK1.out; omega⟩, ⟨by (with_reducible repeat (first | apply Kd.R_alloc | apply Kd.R_drewN | apply Kd.R_drew)); exact HO579.out⟩, ⟨by (with_reducible repeat (first | apply Kd.R_alloc | apply Kd.R_drewN | apply Kd.R_drew)); exact HO582.out⟩, ⟨by repeat (first | (with_reducible first | exact HB.out | apply below_alloc | apply pw_below_drewN | apply below_drew1) | exact HB.out)⟩⟩
   rw [if_neg c17] at H
   have c17b0 : ((wrap64 (32 + (wrap64 (Int.tmod (IntKind.u64.wrap (rd l0 x5_1)) 91)))) == 92) = false := beq_eq_false_iff_ne.mpr c17
   have c17b1 : ((wrap64 (32 + (wrap64 (Int.tmod (IntKind.u64.wrap (rd l0 x5_1)) 91)))) != 92) = true := bne_iff_ne.mpr c17
   by_cases c22 : (wrap64 (32 + (wrap64 (Int.tmod (IntKind.u64.wrap (rd l0 x5_1)) 91)))) = 94
   ·rw [if_pos c22] at H
    have c22b0 : ((wrap64 (32 + (wrap64 (Int.tmod (IntKind.u64.wrap (rd l0 x5_1)) 91)))) == 94) = true := beq_iff_eq.mpr c22
    have c22b1 : ((wrap64 (32 + (wrap64 (Int.tmod (IntKind.u64.wrap (rd l0 x5_1)) 91)))) != 94) = false := bne_eq_false_iff_eq.mpr c22
    clear c22
    by_cases c23 : x3_1.length < 17592186044416
    rotate_left
    ·rw [if_neg c23] at H
     exact absurd H (by simp)
    rw [if_pos c23] at H
    have LMc23 := Aside0.mk c23
    clear c23
    obtain ⟨y583, hy583⟩ : ∃ y_ : List Int, y_ = (x3_1 ++ [97]) := ⟨_, rfl⟩
    replace H : (if x4_1.length < 140737488355328 then (sobriquetlaw18_TeletexPlain.l0 k1 l0 y583 (x4_1 ++ [97]) (wrap64 (x5_1 + 1))) else (none)) = some r := by first | (rw [hy583]; with_reducible exact H) | (have H2_ := (Option.bind_some _ _).symm.trans H; rw [hy583]; with_reducible exact H2_) | (have H2_ := (Option.bind_some _ _).symm.trans H; with_reducible exact H2_) | with_reducible exact H | (rw [hy583]; exact H) | exact H
    have Ny583 := Aside0.mk hy583
    clear hy583
    by_cases c24 : x4_1.length < 140737488355328
    rotate_left
    ·rw [if_neg c24] at H
     exact absurd H (by simp)
    rw [if_pos c24] at H
    have LMc24 := Aside0.mk c24
    clear c24
    obtain ⟨y586, hy586⟩ : ∃ y_ : List Int, y_ = (x4_1 ++ [97]) := ⟨_, rfl⟩
    replace H : (sobriquetlaw18_TeletexPlain.l0 k1 l0 y583 y586 (wrap64 (x5_1 + 1))) = some r := by first | (rw [hy586]; with_reducible exact H) | (have H2_ := (Option.bind_some _ _).symm.trans H; rw [hy586]; with_reducible exact H2_) | (have H2_ := (Option.bind_some _ _).symm.trans H; with_reducible exact H2_) | with_reducible exact H | (rw [hy586]; exact H) | exact H
    have Ny586 := Aside0.mk hy586
    clear hy586
    have H' := Aside0.mk H
    clear H
    have p564 : 0 ≤ (x5_1 : Int) := of_decide_eq_true (by first | (with_reducible assumption) | assumption)
    have q564 : x5_1 < (l0.length : Int) := of_decide_eq_true (by first | (with_reducible assumption) | assumption)
    obtain ⟨ad564, e564, hx564_0⟩ := Kd.at_int HR0.out x5_1 p564 q564
    cases e564
    replace hx564_0 := (HB.out.cell (World.block_lt_of_cell? w _ hx564_0)).trans hx564_0
    replace p564 := eq_true p564
    replace q564 := eq_true q564
    go_wp2_with (first | ((with_reducible refine gate_builtin (b := .append) (xs := #[.tmp 58, .tmp 60]) rfl ?_); at_builtin; refine Kd.R_append (Kd.int .i64) (w0 := w) w.heap.size rfl (.tmp 58) (.tmp 60) 22 3 (.int .i64 0) 8 rfl Try.underlying22 info3 rfl (by decide) (by omega) u3 x3_1 97 [.int .i64 97] (fun _ => True) (fun _ => False) rfl rfl ?aP (fun _ hk => hk.elim) ?aF ?aO ?aB ?aS ?aL ?_; (case aP => exact rfl); (case aB => exact (by repeat (first | (with_reducible first | exact HB.out | apply below_alloc | apply pw_below_drewN | apply below_drew1) | exact HB.out))); (case aF => exact (fun _ _ => trivial)); (case aO => exact (by (with_reducible repeat (first | apply Kd.R_alloc | apply Kd.R_drewN | apply Kd.R_drew)); exact HO_3.out)); (case aS => exact (below_size (by repeat (first | (with_reducible first | exact HB.out | apply below_alloc | apply pw_below_drewN | apply below_drew1) | exact HB.out)))); (case aL => have := LMc23.out; omega); intro v584 w25 ho hb hg hat; rw [← Ny583.out] at ho; have n0_ := Aside0.mk (Kd.R_over' (by (with_reducible repeat (first | apply Kd.R_alloc | apply Kd.R_drewN | apply Kd.R_drew)); exact HO_4.out) (Kd.R_typed (by (with_reducible repeat (first | apply Kd.R_alloc | apply Kd.R_drewN | apply Kd.R_drew)); exact HO_3.out)) (by decide) hg); have n1_ := Aside0.mk (hb); have n2_ := Aside0.mk (ho); clear HO_4; clear HB; clear HO_3; have HO_4 := n0_; have HB := n1_; have HO585 := n2_; clear n0_ n1_ n2_; clear ho hb hg hat) | ((with_reducible refine gate_builtin (b := .append) (xs := #[.tmp 62, .tmp 65]) rfl ?_); at_builtin; refine Kd.R_append (Kd.int .u8) (w0 := w) w.heap.size rfl (.tmp 62) (.tmp 65) 23 5 (.int .u8 0) 1 rfl Try.underlying23 info5 rfl (by decide) (by omega) u4 x4_1 97 [.int .u8 97] (fun _ => True) (fun _ => False) rfl rfl ?aP (fun _ hk => hk.elim) ?aF ?aO ?aB ?aS ?aL ?_; (case aP => exact rfl); (case aB => exact (by repeat (first | (with_reducible first | exact HB.out | apply below_alloc | apply pw_below_drewN | apply below_drew1) | exact HB.out))); (case aF => exact (fun _ _ => trivial)); (case aO => exact (by (with_reducible repeat (first | apply Kd.R_alloc | apply Kd.R_drewN | apply Kd.R_drew)); exact HO_4.out)); (case aS => exact (below_size (by repeat (first | (with_reducible first | exact HB.out | apply below_alloc | apply pw_below_drewN | apply below_drew1) | exact HB.out)))); (case aL => have := LMc24.out; omega); intro v587 w26 ho hb hg hat; rw [← Ny586.out] at ho; have n0_ := Aside0.mk (Kd.R_over' (by (with_reducible repeat (first | apply Kd.R_alloc | apply Kd.R_drewN | apply Kd.R_drew)); exact HO585.out) (Kd.R_typed (by (with_reducible repeat (first | apply Kd.R_alloc | apply Kd.R_drewN | apply Kd.R_drew)); exact HO_4.out)) (by decide) hg); have n1_ := Aside0.mk (hb); have n2_ := Aside0.mk (ho); clear HO585; clear HB; clear HO_4; have HO585 := n0_; have HB := n1_; have HO588 := n2_; clear n0_ n1_ n2_; clear ho hb hg hat))
    go_roundg k1
    case measure => have := HK1.out; omega
    case rel => exact ⟨(y583), (y586), (wrap64 (x5_1 + 1)), (by first | rfl | (simp; done) | (simp [*]; done)), H', ⟨by have := HK1.out; omega⟩, ⟨by (with_reducible repeat (first | apply Kd.R_alloc | apply Kd.R_drewN | apply Kd.R_drew)); exact HO585.out⟩, ⟨by (with_reducible repeat (first | apply Kd.R_alloc | apply Kd.R_drewN | apply Kd.R_drew)); exact HO588.out⟩, ⟨by repeat (first | (with_reducible first | exact HB.out | apply below_alloc | apply pw_below_drewN | apply below_drew1) | exact HB.out)⟩⟩
   rw [if_neg c22] at H
   have c22b0 : ((wrap64 (32 + (wrap64 (Int.tmod (IntKind.u64.wrap (rd l0 x5_1)) 91)))) == 94) = false := beq_eq_false_iff_ne.mpr c22
   have c22b1 : ((wrap64 (32 + (wrap64 (Int.tmod (IntKind.u64.wrap (rd l0 x5_1)) 91)))) != 94) = true := bne_iff_ne.mpr c22
   by_cases c27 : (wrap64 (32 + (wrap64 (Int.tmod (IntKind.u64.wrap (rd l0 x5_1)) 91)))) = 96
   ·rw [if_pos c27] at H
    have c27b0 : ((wrap64 (32 + (wrap64 (Int.tmod (IntKind.u64.wrap (rd l0 x5_1)) 91)))) == 96) = true := beq_iff_eq.mpr c27
    have c27b1 : ((wrap64 (32 + (wrap64 (Int.tmod (IntKind.u64.wrap (rd l0 x5_1)) 91)))) != 96) = false := bne_eq_false_iff_eq.mpr c27
    clear c27
    by_cases c28 : x3_1.length < 17592186044416
    rotate_left
    ·rw [if_neg c28] at H
     exact absurd H (by simp)
    rw [if_pos c28] at H
    have LMc28 := Aside0.mk c28
    clear c28
    obtain ⟨y589, hy589⟩ : ∃ y_ : List Int, y_ = (x3_1 ++ [97]) := ⟨_, rfl⟩
    replace H : (if x4_1.length < 140737488355328 then (sobriquetlaw18_TeletexPlain.l0 k1 l0 y589 (x4_1 ++ [97]) (wrap64 (x5_1 + 1))) else (none)) = some r := by first | (rw [hy589]; with_reducible exact H) | (have H2_ := (Option.bind_some _ _).symm.trans H; rw [hy589]; with_reducible exact H2_) | (have H2_ := (Option.bind_some _ _).symm.trans H; with_reducible exact H2_) | with_reducible exact H | (rw [hy589]; exact H) | exact H
    have Ny589 := Aside0.mk hy589
    clear hy589
    by_cases c29 : x4_1.length < 140737488355328
    rotate_left
    ·rw [if_neg c29] at H
     exact absurd H (by simp)
    rw [if_pos c29] at H
    have LMc29 := Aside0.mk c29
    clear c29
    obtain ⟨y592, hy592⟩ : ∃ y_ : List Int, y_ = (x4_1 ++ [97]) := ⟨_, rfl⟩
    replace H : (sobriquetlaw18_TeletexPlain.l0 k1 l0 y589 y592 (wrap64 (x5_1 + 1))) = some r := by first | (rw [hy592]; with_reducible exact H) | (have H2_ := (Option.bind_some _ _).symm.trans H; rw [hy592]; with_reducible exact H2_) | (have H2_ := (Option.bind_some _ _).symm.trans H; with_reducible exact H2_) | with_reducible exact H | (rw [hy592]; exact H) | exact H
    have Ny592 := Aside0.mk hy592
    clear hy592
    have H' := Aside0.mk H
    clear H
    have p564 : 0 ≤ (x5_1 : Int) := of_decide_eq_true (by first | (with_reducible assumption) | assumption)
    have q564 : x5_1 < (l0.length : Int) := of_decide_eq_true (by first | (with_reducible assumption) | assumption)
    obtain ⟨ad564, e564, hx564_0⟩ := Kd.at_int HR0.out x5_1 p564 q564
    cases e564
    replace hx564_0 := (HB.out.cell (World.block_lt_of_cell? w _ hx564_0)).trans hx564_0
    replace p564 := eq_true p564
    replace q564 := eq_true q564
    go_wp2_with (first | ((with_reducible refine gate_builtin (b := .append) (xs := #[.tmp 58, .tmp 60]) rfl ?_); at_builtin; refine Kd.R_append (Kd.int .i64) (w0 := w) w.heap.size rfl (.tmp 58) (.tmp 60) 22 3 (.int .i64 0) 8 rfl Try.underlying22 info3 rfl (by decide) (by omega) u3 x3_1 97 [.int .i64 97] (fun _ => True) (fun _ => False) rfl rfl ?aP (fun _ hk => hk.elim) ?aF ?aO ?aB ?aS ?aL ?_; (case aP => exact rfl); (case aB => exact (by repeat (first | (with_reducible first | exact HB.out | apply below_alloc | apply pw_below_drewN | apply below_drew1) | exact HB.out))); (case aF => exact (fun _ _ => trivial)); (case aO => exact (by (with_reducible repeat (first | apply Kd.R_alloc | apply Kd.R_drewN | apply Kd.R_drew)); exact HO_3.out)); (case aS => exact (below_size (by repeat (first | (with_reducible first | exact HB.out | apply below_alloc | apply pw_below_drewN | apply below_drew1) | exact HB.out)))); (case aL => have := LMc28.out; omega); intro v590 w30 ho hb hg hat; rw [← Ny589.out] at ho; have n0_ := Aside0.mk (Kd.R_over' (by (with_reducible repeat (first | apply Kd.R_alloc | apply Kd.R_drewN | apply Kd.R_drew)); exact HO_4.out) (Kd.R_typed (by (with_reducible repeat (first | apply Kd.R_alloc | apply Kd.R_drewN | apply Kd.R_drew)); exact HO_3.out)) (by decide) hg); have n1_ := Aside0.mk (hb); have n2_ := Aside0.mk (ho); clear HO_4; clear HB; clear HO_3; have HO_4 := n0_; have HB := n1_; have HO591 := n2_; clear n0_ n1_ n2_; clear ho hb hg hat) | ((with_reducible refine gate_builtin (b := .append) (xs := #[.tmp 62, .tmp 65]) rfl ?_); at_builtin; refine Kd.R_append (Kd.int .u8) (w0 := w) w.heap.size rfl (.tmp 62) (.tmp 65) 23 5 (.int .u8 0) 1 rfl Try.underlying23 info5 rfl (by decide) (by omega) u4 x4_1 97 [.int .u8 97] (fun _ => True) (fun _ => False) rfl rfl ?aP (fun _ hk => hk.elim) ?aF ?aO ?aB ?aS ?aL ?_; (case aP => exact rfl); (case aB => exact (by repeat (first | (with_reducible first | exact HB.out | apply below_alloc | apply pw_below_drewN | apply below_drew1) | exact HB.out))); (case aF => exact (fun _ _ => trivial)); (case aO => exact (by (with_reducible repeat (first | apply Kd.R_alloc | apply Kd.R_drewN | apply Kd.R_drew)); exact HO_4.out)); (case aS => exact (below_size (by repeat (first | (with_reducible first | exact HB.out | apply below_alloc | apply pw_below_drewN | apply below_drew1) | exact HB.out)))); (case aL => have := LMc29.out; omega); intro v593 w31 ho hb hg hat; rw [← Ny592.out] at ho; have n0_ := Aside0.mk (Kd.R_over' (by (with_reducible repeat (first | apply Kd.R_alloc | apply Kd.R_drewN | apply Kd.R_drew)); exact HO591.out) (Kd.R_typed (by (with_reducible repeat (first | apply Kd.R_alloc | apply Kd.R_drewN | apply Kd.R_drew)); exact HO_4.out)) (by decide) hg); have n1_ := Aside0.mk (hb); have n2_ := Aside0.mk (ho); clear HO591; clear HB; clear HO_4; have HO591 := n0_; have HB := n1_; have HO594 := n2_; clear n0_ n1_ n2_; clear ho hb hg hat))
    go_roundg k1
    case measure => have := HK1.out; omega
    case rel => exact ⟨(y589), (y592), (wrap64 (x5_1 + 1)), (by first | rfl | (simp; done) | (simp [*]; done)), H', ⟨by have := HK1.out; omega⟩, ⟨by (with_reducible repeat (first | apply Kd.R_alloc | apply Kd.R_drewN | apply Kd.R_drew)); exact HO591.out⟩, ⟨by (with_reducible repeat (first | apply Kd.R_alloc | apply Kd.R_drewN | apply Kd.R_drew)); exact HO594.out⟩, ⟨by repeat (first | (with_reducible first | exact HB.out | apply below_alloc | apply pw_below_drewN | apply below_drew1) | exact HB.out)⟩⟩
   rw [if_neg c27] at H
   have c27b0 : ((wrap64 (32 + (wrap64 (Int.tmod (IntKind.u64.wrap (rd l0 x5_1)) 91)))) == 96) = false := beq_eq_false_iff_ne.mpr c27
   have c27b1 : ((wrap64 (32 + (wrap64 (Int.tmod (IntKind.u64.wrap (rd l0 x5_1)) 91)))) != 96) = true := bne_iff_ne.mpr c27
   by_cases c32 : (wrap64 (32 + (wrap64 (Int.tmod (IntKind.u64.wrap (rd l0 x5_1)) 91)))) > 122
   ·rw [if_pos c32] at H
    have c32b0 : decide (122 < (wrap64 (32 + (wrap64 (Int.tmod (IntKind.u64.wrap (rd l0 x5_1)) 91))))) = true := decide_eq_true c32
    clear c32
    by_cases c33 : x3_1.length < 17592186044416
    rotate_left
    ·rw [if_neg c33] at H
     exact absurd H (by simp)
    rw [if_pos c33] at H
    have LMc33 := Aside0.mk c33
    clear c33
    obtain ⟨y595, hy595⟩ : ∃ y_ : List Int, y_ = (x3_1 ++ [97]) := ⟨_, rfl⟩
    replace H : (if x4_1.length < 140737488355328 then (sobriquetlaw18_TeletexPlain.l0 k1 l0 y595 (x4_1 ++ [97]) (wrap64 (x5_1 + 1))) else (none)) = some r := by first | (rw [hy595]; with_reducible exact H) | (have H2_ := (Option.bind_some _ _).symm.trans H; rw [hy595]; with_reducible exact H2_) | (have H2_ := (Option.bind_some _ _).symm.trans H; with_reducible exact H2_) | with_reducible exact H | (rw [hy595]; exact H) | exact H
    have Ny595 := Aside0.mk hy595
    clear hy595
    by_cases c34 : x4_1.length < 140737488355328
    rotate_left
    ·rw [if_neg c34] at H
     exact absurd H (by simp)
    rw [if_pos c34] at H
    have LMc34 := Aside0.mk c34
    clear c34
    obtain ⟨y598, hy598⟩ : ∃ y_ : List Int, y_ = (x4_1 ++ [97]) := ⟨_, rfl⟩
    replace H : (sobriquetlaw18_TeletexPlain.l0 k1 l0 y595 y598 (wrap64 (x5_1 + 1))) = some r := by first | (rw [hy598]; with_reducible exact H) | (have H2_ := (Option.bind_some _ _).symm.trans H; rw [hy598]; with_reducible exact H2_) | (have H2_ := (Option.bind_some _ _).symm.trans H; with_reducible exact H2_) | with_reducible exact H | (rw [hy598]; exact H) | exact H
    have Ny598 := Aside0.mk hy598
    clear hy598
    have H' := Aside0.mk H
    clear H
    have p564 : 0 ≤ (x5_1 : Int) := of_decide_eq_true (by first | (with_reducible assumption) | assumption)
    have q564 : x5_1 < (l0.length : Int) := of_decide_eq_true (by first | (with_reducible assumption) | assumption)
    obtain ⟨ad564, e564, hx564_0⟩ := Kd.at_int HR0.out x5_1 p564 q564
    cases e564
    replace hx564_0 := (HB.out.cell (World.block_lt_of_cell? w _ hx564_0)).trans hx564_0
    replace p564 := eq_true p564
    replace q564 := eq_true q564
    go_wp2_with (first | ((with_reducible refine gate_builtin (b := .append) (xs := #[.tmp 58, .tmp 60]) rfl ?_); at_builtin; refine Kd.R_append (Kd.int .i64) (w0 := w) w.heap.size rfl (.tmp 58) (.tmp 60) 22 3 (.int .i64 0) 8 rfl Try.underlying22 info3 rfl (by decide) (by omega) u3 x3_1 97 [.int .i64 97] (fun _ => True) (fun _ => False) rfl rfl ?aP (fun _ hk => hk.elim) ?aF ?aO ?aB ?aS ?aL ?_; (case aP => exact rfl); (case aB => exact (by repeat (first | (with_reducible first | exact HB.out | apply below_alloc | apply pw_below_drewN | apply below_drew1) | exact HB.out))); (case aF => exact (fun _ _ => trivial)); (case aO => exact (by (with_reducible repeat (first | apply Kd.R_alloc | apply Kd.R_drewN | apply Kd.R_drew)); exact HO_3.out)); (case aS => exact (below_size (by repeat (first | (with_reducible first | exact HB.out | apply below_alloc | apply pw_below_drewN | apply below_drew1) | exact HB.out)))); (case aL => have := LMc33.out; omega); intro v596 w35 ho hb hg hat; rw [← Ny595.out] at ho; have n0_ := Aside0.mk (Kd.R_over' (by (with_reducible repeat (first | apply Kd.R_alloc | apply Kd.R_drewN | apply Kd.R_drew)); exact HO_4.out) (Kd.R_typed (by (with_reducible repeat (first | apply Kd.R_alloc | apply Kd.R_drewN | apply Kd.R_drew)); exact HO_3.out)) (by decide) hg); have n1_ := Aside0.mk (hb); have n2_ := Aside0.mk (ho); clear HO_4; clear HB; clear HO_3; have HO_4 := n0_; have HB := n1_; have HO597 := n2_; clear n0_ n1_ n2_; clear ho hb hg hat) | ((with_reducible refine gate_builtin (b := .append) (xs := #[.tmp 62, .tmp 65]) rfl ?_); at_builtin; refine Kd.R_append (Kd.int .u8) (w0 := w) w.heap.size rfl (.tmp 62) (.tmp 65) 23 5 (.int .u8 0) 1 rfl Try.underlying23 info5 rfl (by decide) (by omega) u4 x4_1 97 [.int .u8 97] (fun _ => True) (fun _ => False) rfl rfl ?aP (fun _ hk => hk.elim) ?aF ?aO ?aB ?aS ?aL ?_; (case aP => exact rfl); (case aB => exact (by repeat (first | (with_reducible first | exact HB.out | apply below_alloc | apply pw_below_drewN | apply below_drew1) | exact HB.out))); (case aF => exact (fun _ _ => trivial)); (case aO => exact (by (with_reducible repeat (first | apply Kd.R_alloc | apply Kd.R_drewN | apply Kd.R_drew)); exact HO_4.out)); (case aS => exact (below_size (by repeat (first | (with_reducible first | exact HB.out | apply below_alloc | apply pw_below_drewN | apply below_drew1) | exact HB.out)))); (case aL => have := LMc34.out; omega); intro v599 w36 ho hb hg hat; rw [← Ny598.out] at ho; have n0_ := Aside0.mk (Kd.R_over' (by (with_reducible repeat (first | apply Kd.R_alloc | apply Kd.R_drewN | apply Kd.R_drew)); exact HO597.out) (Kd.R_typed (by (with_reducible repeat (first | apply Kd.R_alloc | apply Kd.R_drewN | apply Kd.R_drew)); exact HO_4.out)) (by decide) hg); have n1_ := Aside0.mk (hb); have n2_ := Aside0.mk (ho); clear HO597; clear HB; clear HO_4; have HO597 := n0_; have HB := n1_; have HO600 := n2_; clear n0_ n1_ n2_; clear ho hb hg hat))
    go_roundg k1
    case measure => have := HK1.out; omega
    case rel => exact ⟨(y595), (y598), (wrap64 (x5_1 + 1)), (by first | rfl | (simp; done) | (simp [*]; done)), H', ⟨by have := HK1.out; omega⟩, ⟨by (with_reducible repeat (first | apply Kd.R_alloc | apply Kd.R_drewN | apply Kd.R_drew)); exact HO597.out⟩, ⟨by (with_reducible repeat (first | apply Kd.R_alloc | apply Kd.R_drewN | apply Kd.R_drew)); exact HO600.out⟩, ⟨by repeat (first | (with_reducible first | exact HB.out | apply below_alloc | apply pw_below_drewN | apply below_drew1) | exact HB.out)⟩⟩
   rw [if_neg c32] at H
   have c32b0 : decide (122 < (wrap64 (32 + (wrap64 (Int.tmod (IntKind.u64.wrap (rd l0 x5_1)) 91))))) = false := decide_eq_false c32
   clear c32
   by_cases c37 : x3_1.length < 17592186044416
   rotate_left
   ·rw [if_neg c37] at H
    exact absurd H (by simp)
   rw [if_pos c37] at H
   have LMc37 := Aside0.mk c37
   clear c37
   obtain ⟨y601, hy601⟩ : ∃ y_ : List Int, y_ = (x3_1 ++ [wrap64 (32 + (wrap64 (Int.tmod (IntKind.u64.wrap (rd l0 x5_1)) 91)))]) := ⟨_, rfl⟩
   replace H : (if x4_1.length < 140737488355328 then (sobriquetlaw18_TeletexPlain.l0 k1 l0 y601 (x4_1 ++ [(wrap64 (32 + (wrap64 (Int.tmod (IntKind.u64.wrap (rd l0 x5_1)) 91)))) % 256]) (wrap64 (x5_1 + 1))) else (none)) = some r := by first | (rw [hy601]; with_reducible exact H) | (have H2_ := (Option.bind_some _ _).symm.trans H; rw [hy601]; with_reducible exact H2_) | (have H2_ := (Option.bind_some _ _).symm.trans H; with_reducible exact H2_) | with_reducible exact H | (rw [hy601]; exact H) | exact H
   have Ny601 := Aside0.mk hy601
   clear hy601
   by_cases c38 : x4_1.length < 140737488355328
   rotate_left
   ·rw [if_neg c38] at H
    exact absurd H (by simp)
   rw [if_pos c38] at H
   have LMc38 := Aside0.mk c38
   clear c38
   obtain ⟨y604, hy604⟩ : ∃ y_ : List Int, y_ = (x4_1 ++ [(wrap64 (32 + (wrap64 (Int.tmod (IntKind.u64.wrap (rd l0 x5_1)) 91)))) % 256]) := ⟨_, rfl⟩
   replace H : (sobriquetlaw18_TeletexPlain.l0 k1 l0 y601 y604 (wrap64 (x5_1 + 1))) = some r := by first | (rw [hy604]; with_reducible exact H) | (have H2_ := (Option.bind_some _ _).symm.trans H; rw [hy604]; with_reducible exact H2_) | (have H2_ := (Option.bind_some _ _).symm.trans H; with_reducible exact H2_) | with_reducible exact H | (rw [hy604]; exact H) | exact H
   have Ny604 := Aside0.mk hy604
   clear hy604
   have H' := Aside0.mk H
   clear H
   have p564 : 0 ≤ (x5_1 : Int) := of_decide_eq_true (by first | (with_reducible assumption) | assumption)
   have q564 : x5_1 < (l0.length : Int) := of_decide_eq_true (by first | (with_reducible assumption) | assumption)
   obtain ⟨ad564, e564, hx564_0⟩ := Kd.at_int HR0.out x5_1 p564 q564
   cases e564
   replace hx564_0 := (HB.out.cell (World.block_lt_of_cell? w _ hx564_0)).trans hx564_0
   replace p564 := eq_true p564
   replace q564 := eq_true q564
   go_wp2_with (first | ((with_reducible refine gate_builtin (b := .append) (xs := #[.tmp 58, .tmp 60]) rfl ?_); at_builtin; refine Kd.R_append (Kd.int .i64) (w0 := w) w.heap.size rfl (.tmp 58) (.tmp 60) 22 3 (.int .i64 0) 8 rfl Try.underlying22 info3 rfl (by decide) (by omega) u3 x3_1 (wrap64 (32 + (wrap64 (Int.tmod (IntKind.u64.wrap (rd l0 x5_1)) 91)))) [.int .i64 (wrap64 (32 + (wrap64 (Int.tmod (IntKind.u64.wrap (rd l0 x5_1)) 91))))] (fun _ => True) (fun _ => False) rfl rfl ?aP (fun _ hk => hk.elim) ?aF ?aO ?aB ?aS ?aL ?_; (case aP => exact rfl); (case aB => exact (by repeat (first | (with_reducible first | exact HB.out | apply below_alloc | apply pw_below_drewN | apply below_drew1) | exact HB.out))); (case aF => exact (fun _ _ => trivial)); (case aO => exact (by (with_reducible repeat (first | apply Kd.R_alloc | apply Kd.R_drewN | apply Kd.R_drew)); exact HO_3.out)); (case aS => exact (below_size (by repeat (first | (with_reducible first | exact HB.out | apply below_alloc | apply pw_below_drewN | apply below_drew1) | exact HB.out)))); (case aL => have := LMc37.out; omega); intro v602 w39 ho hb hg hat; rw [← Ny601.out] at ho; have n0_ := Aside0.mk (Kd.R_over' (by (with_reducible repeat (first | apply Kd.R_alloc | apply Kd.R_drewN | apply Kd.R_drew)); exact HO_4.out) (Kd.R_typed (by (with_reducible repeat (first | apply Kd.R_alloc | apply Kd.R_drewN | apply Kd.R_drew)); exact HO_3.out)) (by decide) hg); have n1_ := Aside0.mk (hb); have n2_ := Aside0.mk (ho); clear HO_4; clear HB; clear HO_3; have HO_4 := n0_; have HB := n1_; have HO603 := n2_; clear n0_ n1_ n2_; clear ho hb hg hat) | ((with_reducible refine gate_builtin (b := .append) (xs := #[.tmp 62, .tmp 65]) rfl ?_); at_builtin; refine Kd.R_append (Kd.int .u8) (w0 := w) w.heap.size rfl (.tmp 62) (.tmp 65) 23 5 (.int .u8 0) 1 rfl Try.underlying23 info5 rfl (by decide) (by omega) u4 x4_1 ((wrap64 (32 + (wrap64 (Int.tmod (IntKind.u64.wrap (rd l0 x5_1)) 91)))) % 256) [.int .u8 ((wrap64 (32 + (wrap64 (Int.tmod (IntKind.u64.wrap (rd l0 x5_1)) 91)))) % 256)] (fun _ => True) (fun _ => False) rfl rfl ?aP (fun _ hk => hk.elim) ?aF ?aO ?aB ?aS ?aL ?_; (case aP => exact rfl); (case aB => exact (by repeat (first | (with_reducible first | exact HB.out | apply below_alloc | apply pw_below_drewN | apply below_drew1) | exact HB.out))); (case aF => exact (fun _ _ => trivial)); (case aO => exact (by (with_reducible repeat (first | apply Kd.R_alloc | apply Kd.R_drewN | apply Kd.R_drew)); exact HO_4.out)); (case aS => exact (below_size (by repeat (first | (with_reducible first | exact HB.out | apply below_alloc | apply pw_below_drewN | apply below_drew1) | exact HB.out)))); (case aL => have := LMc38.out; omega); intro v605 w40 ho hb hg hat; rw [← Ny604.out] at ho; have n0_ := Aside0.mk (Kd.R_over' (by (with_reducible repeat (first | apply Kd.R_alloc | apply Kd.R_drewN | apply Kd.R_drew)); exact HO603.out) (Kd.R_typed (by (with_reducible repeat (first | apply Kd.R_alloc | apply Kd.R_drewN | apply Kd.R_drew)); exact HO_4.out)) (by decide) hg); have n1_ := Aside0.mk (hb); have n2_ := Aside0.mk (ho); clear HO603; clear HB; clear HO_4; have HO603 := n0_; have HB := n1_; have HO606 := n2_; clear n0_ n1_ n2_; clear ho hb hg hat))
   go_roundg k1
   case measure => have := HK1.out; omega
   case rel => exact ⟨(y601), (y604), (wrap64 (x5_1 + 1)), (by first | rfl | (simp; done) | (simp [*]; done)), H', ⟨by have := HK1.out; omega⟩, ⟨by (with_reducible repeat (first | apply Kd.R_alloc | apply Kd.R_drewN | apply Kd.R_drew)); exact HO603.out⟩, ⟨by (with_reducible repeat (first | apply Kd.R_alloc | apply Kd.R_drewN | apply Kd.R_drew)); exact HO606.out⟩, ⟨by repeat (first | (with_reducible first | exact HB.out | apply below_alloc | apply pw_below_drewN | apply below_drew1) | exact HB.out)⟩⟩

/-- THE ONE PURE STATEMENT of sobriquetlaw18_TeletexPlain: yours. -/
def sobriquetlaw18_TeletexPlain.Pure : Prop := ∀ (l0 : List Int), l0.length ≤ maxLen → l0.length * 8 ≤ 140737488351232 → (∀ x ∈ l0, (Lit.int .i64 x).wf = true) → ∃ k, sobriquetlaw18_TeletexPlain.f k l0 = some true
theorem sobriquetlaw18_TeletexPlain.walk (P : sobriquetlaw18_TeletexPlain.Pure) (a0 : Option Addr) (len0 cap0 : Nat) (z0 : List Int) (w : World) (w0 : (a0 = none ∧ len0 = 0 ∧ cap0 = 0 ∧ z0 = []) ∨ ∃ x, a0 = some x ∧ len0 ≤ cap0 ∧ cap0 ≤ maxLen ∧ z0.length = cap0 ∧ (∀ i, i < z0.length → w.cell? (x.add i) = some (.int .i64 (z0.getD i 0))) ∧ ∀ n ∈ z0, (Lit.int .i64 n).wf = true) (y0 : len0 * 8 ≤ 140737488351232) :
  Calls Try.prog 8 #[.slice a0 len0 cap0] w fun e w' => e = .returned (.bool true) ∧ Below w.heap.size w w' := by
 obtain ⟨l0, rfl, hr0, hm0, hw0, hc0⟩ := ReadsInt.ofRowC w0
 obtain ⟨k, h⟩ := P l0 hm0 y0 hw0
 refine (sobriquetlaw18_TeletexPlain.calls k _ _ l0 true w (Kd.C_of_reads (d := (0 : Int)) (h1 := fun _ => rfl) hr0) hc0 h).mono ?_
 rintro e w' ⟨rfl, hd⟩
 exact ⟨rfl, hd⟩

end Go.Proofs.Ytgcdfchchphpjaa.M
