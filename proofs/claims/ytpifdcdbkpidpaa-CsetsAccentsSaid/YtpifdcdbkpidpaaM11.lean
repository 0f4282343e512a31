-- Written by wip/prn.py of this session out of the translation (function by function); Lean checks it.
import Derived.Test.YtpifdcdbkpidpaaM0
import Derived.Test.YtpifdcdbkpidpaaM2
import Derived.Test.YtpifdcdbkpidpaaM6
import Derived.Test.YtpifdcdbkpidpaaM8
import Derived.Test.YtpifdcdbkpidpaaM9
import Derived.Test.YtpifdcdbkpidpaaM10
import Derived.Test.YtpifdcdbkpidpaaHTab
namespace Go.Proofs.Ytpifdcdbkpidpaa.M
open Go.RowKit Go.Proofs.YtpifdcdbkpidpaaW.PrintWords Go.Proofs.YtpifdcdbkpidpaaW.PrintLast Go.Proofs.YtpifdcdbkpidpaaW.PrintMore
attribute [local go_sem] max2_int min2_int max_two min_two max_three min_three max_four min_four   -- for this text's walks alone
set_option linter.unusedVariables false
set_option linter.unusedSimpArgs false

/-! ### sobriquetlaw16_CsetsAccents: function 5 -/
def sobriquetlaw16_CsetsAccents.j0 : Nat → Int → Bool → Option (Bool)
 | 0, _, _ => none
 | k + 1, x0, x87 => if x87 = true then (some false) else ((csets_Accent.f k x0).bind fun bt257 => (if bt257.2.2 = true then ((csets_Mark.f k bt257.1).bind fun bt261 => (if bt257.2.1 = 32 then (if bt261.2.2 = true then (if bt261.2.1 = x0 then ((sobriquetlaw16_wakes.f k).bind fun t264 => (some t264)) else (some false)) else (some false)) else ((ucd_Pair.f k bt257.2.1 bt261.1).bind fun bt265 => (if bt261.2.2 = true then (if bt265.2 = true then (if bt265.1 = x0 then (if bt257.2.1 ≥ 65 then (if bt257.2.1 ≤ 90 then ((sobriquetlaw16_wakes.f k).bind fun t267 => (some t267)) else (if bt257.2.1 ≥ 97 then (if bt257.2.1 ≤ 122 then ((sobriquetlaw16_wakes.f k).bind fun t268 => (some t268)) else (some false)) else (some false))) else (if bt257.2.1 ≥ 97 then (if bt257.2.1 ≤ 122 then ((sobriquetlaw16_wakes.f k).bind fun t269 => (some t269)) else (some false)) else (some false))) else (some false)) else (some false)) else (some false))))) else (if bt257.1 = 0 then (if bt257.2.1 = 0 then ((sobriquetlaw16_wakes.f k).bind fun t260 => (some t260)) else (some false)) else (some false))))
def sobriquetlaw16_CsetsAccents.f (k : Nat) (a0 : Int) (a1 : Int) : Option (Bool) := (api_Accents.f).bind fun t244 => (if (t244.length : Int) = 0 then (some false) else (if (IntKind.u64.wrap ((t244.length : Int))) = 0 then (none) else (if 0 ≤ (wrap64 (Int.tmod (IntKind.u64.wrap (a1)) (IntKind.u64.wrap ((t244.length : Int))))) then (if (wrap64 (Int.tmod (IntKind.u64.wrap (a1)) (IntKind.u64.wrap ((t244.length : Int))))) < (t244.length : Int) then ((csets_Mark.f k ((rd_T38 t244 (wrap64 (Int.tmod (IntKind.u64.wrap (a1)) (IntKind.u64.wrap ((t244.length : Int)))))).f0)).bind fun bt249 => ((csets_Get.f k 103 ((rd_T38 t244 (wrap64 (Int.tmod (IntKind.u64.wrap (a1)) (IntKind.u64.wrap ((t244.length : Int)))))).f0)).bind fun bt252 => ((csets_Accent.f k ((rd_T38 t244 (wrap64 (Int.tmod (IntKind.u64.wrap (a1)) (IntKind.u64.wrap ((t244.length : Int)))))).f2)).bind fun bt254 => (if bt249.2.2 = true then (if bt249.1 = ((rd_T38 t244 (wrap64 (Int.tmod (IntKind.u64.wrap (a1)) (IntKind.u64.wrap ((t244.length : Int)))))).f1) then (if bt249.2.1 = ((rd_T38 t244 (wrap64 (Int.tmod (IntKind.u64.wrap (a1)) (IntKind.u64.wrap ((t244.length : Int)))))).f2) then (if bt252.2 = true then (sobriquetlaw16_CsetsAccents.j0 k a0 true) else (if bt254.2.2 = true then (if bt254.1 = ((rd_T38 t244 (wrap64 (Int.tmod (IntKind.u64.wrap (a1)) (IntKind.u64.wrap ((t244.length : Int)))))).f0) then (sobriquetlaw16_CsetsAccents.j0 k a0 (bt254.2.1 != 32)) else (sobriquetlaw16_CsetsAccents.j0 k a0 true)) else (sobriquetlaw16_CsetsAccents.j0 k a0 true))) else (sobriquetlaw16_CsetsAccents.j0 k a0 true)) else (sobriquetlaw16_CsetsAccents.j0 k a0 true)) else (sobriquetlaw16_CsetsAccents.j0 k a0 true))))) else (none)) else (none))))
theorem sobriquetlaw16_CsetsAccents.mono_l : ∀ k, (∀ y0 y1, LeO (sobriquetlaw16_CsetsAccents.j0 k y0 y1) (sobriquetlaw16_CsetsAccents.j0 (k + 1) y0 y1))
 | 0 => fun _ _ r h => by simp [sobriquetlaw16_CsetsAccents.j0] at h
 | k + 1 => by
  have ih0 := sobriquetlaw16_CsetsAccents.mono_l k
  ·intro y0 y1
   unfold sobriquetlaw16_CsetsAccents.j0
   repeat' first
   | (with_reducible exact ih0 _ _)
   | (with_reducible exact csets_Accent.mono _ _)
   | (with_reducible exact csets_Get.mono _ _ _)
   | (with_reducible exact csets_Mark.mono _ _)
   | (with_reducible exact sobriquetlaw16_wakes.mono _)
   | (with_reducible exact ucd_Pair.mono _ _ _)
   | (with_reducible exact LeO.refl _)
   | (with_reducible exact LeO.none _)
   | (with_reducible refine LeO.ite ?_ ?_)
   | (with_reducible refine LeO.bind ?_ (fun _ => ?_))
   | exact ih0 _ _
   | exact csets_Accent.mono _ _
   | exact csets_Get.mono _ _ _
   | exact csets_Mark.mono _ _
   | exact sobriquetlaw16_wakes.mono _
   | exact ucd_Pair.mono _ _ _
   | exact LeO.none _
   | refine LeO.ite ?_ ?_
   | refine LeO.bind ?_ (fun _ => ?_)
theorem sobriquetlaw16_CsetsAccents.mono : ∀ a0 a1 k, LeO (sobriquetlaw16_CsetsAccents.f k a0 a1) (sobriquetlaw16_CsetsAccents.f (k + 1) a0 a1) := by
 intro a0 a1 k
 have ih0 := sobriquetlaw16_CsetsAccents.mono_l k
 unfold sobriquetlaw16_CsetsAccents.f
 repeat' first
   | (with_reducible exact ih0 _ _)
   | (with_reducible exact csets_Accent.mono _ _)
   | (with_reducible exact csets_Get.mono _ _ _)
   | (with_reducible exact csets_Mark.mono _ _)
   | (with_reducible exact sobriquetlaw16_wakes.mono _)
   | (with_reducible exact ucd_Pair.mono _ _ _)
   | (with_reducible exact LeO.refl _)
   | (with_reducible exact LeO.none _)
   | (with_reducible refine LeO.ite ?_ ?_)
   | (with_reducible refine LeO.bind ?_ (fun _ => ?_))
   | exact ih0 _ _
   | exact csets_Accent.mono _ _
   | exact csets_Get.mono _ _ _
   | exact csets_Mark.mono _ _
   | exact sobriquetlaw16_wakes.mono _
   | exact ucd_Pair.mono _ _ _
   | exact LeO.none _
   | refine LeO.ite ?_ ?_
   | refine LeO.bind ?_ (fun _ => ?_)
set_option maxHeartbeats 8000000 in
set_option maxRecDepth 100000 in
theorem sobriquetlaw16_CsetsAccents.calls (k : Nat) (a0 : Int) (a1 : Int) (r : Bool) (w : World) (h : sobriquetlaw16_CsetsAccents.f k a0 a1 = some r) :
  Calls Try.prog 5 #[.int .i64 a0, .int .i64 a1] w fun e w' => e = .returned (.bool r) ∧ Below w.heap.size w w' := by
 have hu38 := Try.underlying38
 have HB := Aside0.mk (Below.refl w.heap.size w)
 have H : ((api_Accents.f).bind fun t244 => (if (t244.length : Int) = 0 then (some false) else (if (IntKind.u64.wrap ((t244.length : Int))) = 0 then (none) else (if 0 ≤ (wrap64 (Int.tmod (IntKind.u64.wrap (a1)) (IntKind.u64.wrap ((t244.length : Int))))) then (if (wrap64 (Int.tmod (IntKind.u64.wrap (a1)) (IntKind.u64.wrap ((t244.length : Int))))) < (t244.length : Int) then ((csets_Mark.f k ((rd_T38 t244 (wrap64 (Int.tmod (IntKind.u64.wrap (a1)) (IntKind.u64.wrap ((t244.length : Int)))))).f0)).bind fun bt249 => ((csets_Get.f k 103 ((rd_T38 t244 (wrap64 (Int.tmod (IntKind.u64.wrap (a1)) (IntKind.u64.wrap ((t244.length : Int)))))).f0)).bind fun bt252 => ((csets_Accent.f k ((rd_T38 t244 (wrap64 (Int.tmod (IntKind.u64.wrap (a1)) (IntKind.u64.wrap ((t244.length : Int)))))).f2)).bind fun bt254 => (if bt249.2.2 = true then (if bt249.1 = ((rd_T38 t244 (wrap64 (Int.tmod (IntKind.u64.wrap (a1)) (IntKind.u64.wrap ((t244.length : Int)))))).f1) then (if bt249.2.1 = ((rd_T38 t244 (wrap64 (Int.tmod (IntKind.u64.wrap (a1)) (IntKind.u64.wrap ((t244.length : Int)))))).f2) then (if bt252.2 = true then (sobriquetlaw16_CsetsAccents.j0 k a0 true) else (if bt254.2.2 = true then (if bt254.1 = ((rd_T38 t244 (wrap64 (Int.tmod (IntKind.u64.wrap (a1)) (IntKind.u64.wrap ((t244.length : Int)))))).f0) then (sobriquetlaw16_CsetsAccents.j0 k a0 (bt254.2.1 != 32)) else (sobriquetlaw16_CsetsAccents.j0 k a0 true)) else (sobriquetlaw16_CsetsAccents.j0 k a0 true))) else (sobriquetlaw16_CsetsAccents.j0 k a0 true)) else (sobriquetlaw16_CsetsAccents.j0 k a0 true)) else (sobriquetlaw16_CsetsAccents.j0 k a0 true))))) else (none)) else (none))))) = some r := h
 clear h
 replace H := Option.bind_eq_some_iff.mp H
 obtain ⟨t244, A30, H⟩ := H
 replace H : (if (t244.length : Int) = 0 then (some false) else (if (IntKind.u64.wrap ((t244.length : Int))) = 0 then (none) else (if 0 ≤ (wrap64 (Int.tmod (IntKind.u64.wrap (a1)) (IntKind.u64.wrap ((t244.length : Int))))) then (if (wrap64 (Int.tmod (IntKind.u64.wrap (a1)) (IntKind.u64.wrap ((t244.length : Int))))) < (t244.length : Int) then ((csets_Mark.f k ((rd_T38 t244 (wrap64 (Int.tmod (IntKind.u64.wrap (a1)) (IntKind.u64.wrap ((t244.length : Int)))))).f0)).bind fun bt249 => ((csets_Get.f k 103 ((rd_T38 t244 (wrap64 (Int.tmod (IntKind.u64.wrap (a1)) (IntKind.u64.wrap ((t244.length : Int)))))).f0)).bind fun bt252 => ((csets_Accent.f k ((rd_T38 t244 (wrap64 (Int.tmod (IntKind.u64.wrap (a1)) (IntKind.u64.wrap ((t244.length : Int)))))).f2)).bind fun bt254 => (if bt249.2.2 = true then (if bt249.1 = ((rd_T38 t244 (wrap64 (Int.tmod (IntKind.u64.wrap (a1)) (IntKind.u64.wrap ((t244.length : Int)))))).f1) then (if bt249.2.1 = ((rd_T38 t244 (wrap64 (Int.tmod (IntKind.u64.wrap (a1)) (IntKind.u64.wrap ((t244.length : Int)))))).f2) then (if bt252.2 = true then (sobriquetlaw16_CsetsAccents.j0 k a0 true) else (if bt254.2.2 = true then (if bt254.1 = ((rd_T38 t244 (wrap64 (Int.tmod (IntKind.u64.wrap (a1)) (IntKind.u64.wrap ((t244.length : Int)))))).f0) then (sobriquetlaw16_CsetsAccents.j0 k a0 (bt254.2.1 != 32)) else (sobriquetlaw16_CsetsAccents.j0 k a0 true)) else (sobriquetlaw16_CsetsAccents.j0 k a0 true))) else (sobriquetlaw16_CsetsAccents.j0 k a0 true)) else (sobriquetlaw16_CsetsAccents.j0 k a0 true)) else (sobriquetlaw16_CsetsAccents.j0 k a0 true))))) else (none)) else (none)))) = some r := H
 have A3 := Aside0.mk A30
 clear A30
 by_cases c4 : (t244.length : Int) = 0
 ·rw [if_pos c4] at H
  have c4b0 : ((t244.length : Int) == 0) = true := beq_iff_eq.mpr c4
  have c4b1 : ((t244.length : Int) != 0) = false := bne_eq_false_iff_eq.mpr c4
  clear c4
  obtain rfl := Option.some.inj H
  go_enter Try.func5, Try.ntmps5
  go_wp2_with (first | ((with_reducible refine gate_callee (f := 16) rfl ?_); refine goesL_ (some 23) rfl rfl Try.func16 (by kernel_rfl) rfl #[] rfl (by (try simp only [List.map_toArray, List.map_cons, List.map_nil]); first | done | rfl | (simp only [List.length_drop, List.length_take]; rfl)) ?_; (with_reducible refine (api_Accents.calls  t244 _ A3.out).mono ?_); rintro e w5 ⟨v245, rfl, ho0, hb⟩; refine ⟨_, rfl, ?_⟩; have n0_ := Aside0.mk (Kd.R_lower ho0 (below_size (by repeat (first | (with_reducible first | exact HB.out | apply below_alloc | apply pw_below_drewN | apply below_drew1) | exact HB.out)))); have n1_ := Aside0.mk (below_step (by repeat (first | (with_reducible first | exact HB.out | apply below_alloc | apply pw_below_drewN | apply below_drew1) | exact HB.out)) hb); clear HB; have HO246 := n0_; have HB := n1_; clear n0_ n1_; (try clear hb); (try clear hb2); (try clear hk); (try clear hi); (try clear ho0); obtain ⟨Ao6, co6, eo6⟩ := Kd.R_slice HO246.out; subst eo6))
  go_ret
  exact ⟨by first | rfl | (simp [errW_none, errW_some] <;> rfl) | (simp [*, errW_none, errW_some] <;> rfl), by repeat (first | (with_reducible first | exact HB.out | apply below_alloc | apply pw_below_drewN | apply below_drew1) | exact HB.out)⟩
 ·rw [if_neg c4] at H
  have c4b0 : ((t244.length : Int) == 0) = false := beq_eq_false_iff_ne.mpr c4
  have c4b1 : ((t244.length : Int) != 0) = true := bne_iff_ne.mpr c4
  have c4b2 : ¬ (t244 = []) := fun h_ => c4 (by rw [h_]; rfl)
  by_cases c7 : (IntKind.u64.wrap ((t244.length : Int))) = 0
  ·rw [if_pos c7] at H
   exact absurd H (by simp)
  ·rw [if_neg c7] at H
   have c7b0 : ((IntKind.u64.wrap ((t244.length : Int))) == 0) = false := beq_eq_false_iff_ne.mpr c7
   have c7b1 : ((IntKind.u64.wrap ((t244.length : Int))) != 0) = true := bne_iff_ne.mpr c7
   obtain ⟨ji8, hji8⟩ : ∃ j_ : Int, (wrap64 (Int.tmod (IntKind.u64.wrap (a1)) (IntKind.u64.wrap ((t244.length : Int))))) = j_ := ⟨_, rfl⟩
   replace H : (if 0 ≤ (ji8) then (if (ji8) < (t244.length : Int) then ((csets_Mark.f k ((rd_T38 t244 (ji8)).f0)).bind fun bt249 => ((csets_Get.f k 103 ((rd_T38 t244 (ji8)).f0)).bind fun bt252 => ((csets_Accent.f k ((rd_T38 t244 (ji8)).f2)).bind fun bt254 => (if bt249.2.2 = true then (if bt249.1 = ((rd_T38 t244 (ji8)).f1) then (if bt249.2.1 = ((rd_T38 t244 (ji8)).f2) then (if bt252.2 = true then (sobriquetlaw16_CsetsAccents.j0 k a0 true) else (if bt254.2.2 = true then (if bt254.1 = ((rd_T38 t244 (ji8)).f0) then (sobriquetlaw16_CsetsAccents.j0 k a0 (bt254.2.1 != 32)) else (sobriquetlaw16_CsetsAccents.j0 k a0 true)) else (sobriquetlaw16_CsetsAccents.j0 k a0 true))) else (sobriquetlaw16_CsetsAccents.j0 k a0 true)) else (sobriquetlaw16_CsetsAccents.j0 k a0 true)) else (sobriquetlaw16_CsetsAccents.j0 k a0 true))))) else (none)) else (none)) = some r := by first | (rw [hji8] at H; exact H) | (simp only [hji8] at H ⊢; exact H)
   (try rw [hji8] at A3)
   have hji8w : (IntKind.i64.wrap (Int.tmod (IntKind.u64.wrap (a1)) (IntKind.u64.wrap ((t244.length : Int))))) = ji8 := (i64_w _).trans hji8
   by_cases c9 : 0 ≤ (ji8)
   ·rw [if_pos c9] at H
    have c9b0 : decide (0 ≤ (ji8)) = true := decide_eq_true c9
    clear c9
    by_cases c10 : (ji8) < (t244.length : Int)
    ·rw [if_pos c10] at H
     have c10b0 : decide ((ji8) < (t244.length : Int)) = true := decide_eq_true c10
     clear c10
     replace H := Option.bind_eq_some_iff.mp H
     obtain ⟨⟨t249, t250, t251⟩, A110, H⟩ := H
     replace H : ((csets_Get.f k 103 ((rd_T38 t244 (ji8)).f0)).bind fun bt252 => ((csets_Accent.f k ((rd_T38 t244 (ji8)).f2)).bind fun bt254 => (if t251 = true then (if t249 = ((rd_T38 t244 (ji8)).f1) then (if t250 = ((rd_T38 t244 (ji8)).f2) then (if bt252.2 = true then (sobriquetlaw16_CsetsAccents.j0 k a0 true) else (if bt254.2.2 = true then (if bt254.1 = ((rd_T38 t244 (ji8)).f0) then (sobriquetlaw16_CsetsAccents.j0 k a0 (bt254.2.1 != 32)) else (sobriquetlaw16_CsetsAccents.j0 k a0 true)) else (sobriquetlaw16_CsetsAccents.j0 k a0 true))) else (sobriquetlaw16_CsetsAccents.j0 k a0 true)) else (sobriquetlaw16_CsetsAccents.j0 k a0 true)) else (sobriquetlaw16_CsetsAccents.j0 k a0 true)))) = some r := H
     have A11 := Aside0.mk A110
     clear A110
     replace H := Option.bind_eq_some_iff.mp H
     obtain ⟨⟨t252, t253⟩, A120, H⟩ := H
     replace H : ((csets_Accent.f k ((rd_T38 t244 (ji8)).f2)).bind fun bt254 => (if t251 = true then (if t249 = ((rd_T38 t244 (ji8)).f1) then (if t250 = ((rd_T38 t244 (ji8)).f2) then (if t253 = true then (sobriquetlaw16_CsetsAccents.j0 k a0 true) else (if bt254.2.2 = true then (if bt254.1 = ((rd_T38 t244 (ji8)).f0) then (sobriquetlaw16_CsetsAccents.j0 k a0 (bt254.2.1 != 32)) else (sobriquetlaw16_CsetsAccents.j0 k a0 true)) else (sobriquetlaw16_CsetsAccents.j0 k a0 true))) else (sobriquetlaw16_CsetsAccents.j0 k a0 true)) else (sobriquetlaw16_CsetsAccents.j0 k a0 true)) else (sobriquetlaw16_CsetsAccents.j0 k a0 true))) = some r := H
     have A12 := Aside0.mk A120
     clear A120
     replace H := Option.bind_eq_some_iff.mp H
     obtain ⟨⟨t254, t255, t256⟩, A130, H⟩ := H
     replace H : (if t251 = true then (if t249 = ((rd_T38 t244 (ji8)).f1) then (if t250 = ((rd_T38 t244 (ji8)).f2) then (if t253 = true then (sobriquetlaw16_CsetsAccents.j0 k a0 true) else (if t256 = true then (if t254 = ((rd_T38 t244 (ji8)).f0) then (sobriquetlaw16_CsetsAccents.j0 k a0 (t255 != 32)) else (sobriquetlaw16_CsetsAccents.j0 k a0 true)) else (sobriquetlaw16_CsetsAccents.j0 k a0 true))) else (sobriquetlaw16_CsetsAccents.j0 k a0 true)) else (sobriquetlaw16_CsetsAccents.j0 k a0 true)) else (sobriquetlaw16_CsetsAccents.j0 k a0 true)) = some r := H
     have A13 := Aside0.mk A130
     clear A130
     have HC14 := Aside0.mk H
     clear H
     go_enter Try.func5, Try.ntmps5
     go_upto_region 8 with (first | ((with_reducible refine gate_callee (f := 16) rfl ?_); refine goesL_ (some 23) rfl rfl Try.func16 (by kernel_rfl) rfl #[] rfl (by (try simp only [List.map_toArray, List.map_cons, List.map_nil]); first | done | rfl | (simp only [List.length_drop, List.length_take]; rfl)) ?_; (with_reducible refine (api_Accents.calls  t244 _ A3.out).mono ?_); rintro e w15 ⟨v245, rfl, ho0, hb⟩; refine ⟨_, rfl, ?_⟩; have n0_ := Aside0.mk (Kd.R_lower ho0 (below_size (by repeat (first | (with_reducible first | exact HB.out | apply below_alloc | apply pw_below_drewN | apply below_drew1) | exact HB.out)))); have n1_ := Aside0.mk (below_step (by repeat (first | (with_reducible first | exact HB.out | apply below_alloc | apply pw_below_drewN | apply below_drew1) | exact HB.out)) hb); clear HB; have HO246 := n0_; have HB := n1_; clear n0_ n1_; (try clear hb); (try clear hb2); (try clear hk); (try clear hi); (try clear ho0); obtain ⟨Ao16, co16, eo16⟩ := Kd.R_slice HO246.out; subst eo16; have p247 : 0 ≤ ((ji8) : Int) := of_decide_eq_true (by first | (with_reducible assumption) | assumption); have q247 : (ji8) < (t244.length : Int) := of_decide_eq_true (by first | (with_reducible assumption) | assumption); obtain ⟨ad247, e247, hx247_0, hx247_1, hx247_2⟩ := at_T38 (Kd.R_reads' HO246.out).2.2 (ji8) p247 q247; cases e247; replace p247 := eq_true p247; replace q247 := eq_true q247) | ((with_reducible refine gate_dst (N := 6) rfl ?_); refine box_event ?hg (N := 6) ?hd (cs := #[.int .i64 0, .int .i64 0, .int .i64 0]) (t := 38) ?hr ?_; (case hd => rfl); (case hg => rfl); (case hr => first | (go_simp; done) | (go_simp; rfl)); intro gb248 hg w17 hbox hb; have n0_ := Aside0.mk (Kd.R_below (Kd.R_elderB (by (with_reducible repeat (first | apply Kd.R_alloc | apply Kd.R_drewN | apply Kd.R_drew)); exact HO246.out) gb248 (Nat.le_of_eq hg.symm)) hb); have n1_ := Aside0.mk (below_step (by repeat (first | (with_reducible first | exact HB.out | apply below_alloc | apply pw_below_drewN | apply below_drew1) | exact HB.out)) hb); have n2_ := Aside0.mk (hbox); have n3_ := Aside0.mk ((by rw [hg]; exact (below_size (by repeat (first | (with_reducible first | exact HB.out | apply below_alloc | apply pw_below_drewN | apply below_drew1) | exact HB.out))) : w.heap.size ≤ gb248)); have n4_ := Aside0.mk ((by rw [hg]; exact (below_size (by repeat (first | (with_reducible first | exact HB.out | apply below_alloc | apply pw_below_drewN | apply below_drew1) | exact HB.out))) : w.heap.size ≤ gb248)); clear HO246; clear HB; have HO246 := n0_; have HB := n1_; have BK248 := n2_; have GW248 := n3_; have GE248 := n4_; clear n0_ n1_ n2_ n3_ n4_; clear hb hbox hg; have hcz18_0 : w17.cell? ⟨gb248, 0, none⟩ = some (.int .i64 0) := (blk_cell BK248.out 0).trans rfl; have hcz18_1 : w17.cell? ⟨gb248, 1, none⟩ = some (.int .i64 0) := (blk_cell BK248.out 1).trans rfl; have hcz18_2 : w17.cell? ⟨gb248, 2, none⟩ = some (.int .i64 0) := (blk_cell BK248.out 2).trans rfl; have hfz18_0 := blk_frozen BK248.out 0; have hfz18_1 := blk_frozen BK248.out 1; have hfz18_2 := blk_frozen BK248.out 2) | ((with_reducible refine gate_callee (f := 17) rfl ?_); refine goesL_ (some 40) rfl rfl Try.func17 (by kernel_rfl) rfl #[.int .i64 ((rd_T38 t244 (ji8)).f0)] rfl (by (try simp only [List.map_toArray, List.map_cons, List.map_nil]); first | done | (simp only [hji8]; rfl) | rfl | (simp only [List.length_drop, List.length_take]; rfl)) ?_; (with_reducible refine (csets_Mark.calls k ((rd_T38 t244 (ji8)).f0) t249 t250 t251 _ A11.out).mono ?_); rintro e w19 ⟨rfl, hb⟩; refine ⟨_, rfl, ?_⟩; have n0_ := Aside0.mk (Kd.R_below (by (with_reducible repeat (first | apply Kd.R_alloc | apply Kd.R_drewN | apply Kd.R_drew)); exact (Kd.R_mono (Kd.R_far (p := ⟨gb248, 2, none⟩) (Kd.R_far (p := ⟨gb248, 1, none⟩) (Kd.R_far (p := ⟨gb248, 0, none⟩) (Kd.R_mono HO246.out (fun k_ hk => (⟨hk, hk.2⟩ : _ ∧ k_ ≠ gb248))) (fun _ hk => hk.2) (.int .i64 ((rd_T38 t244 (ji8)).f0))) (fun _ hk => hk.2) (.int .i64 ((rd_T38 t244 (ji8)).f1))) (fun _ hk => hk.2) (.int .i64 ((rd_T38 t244 (ji8)).f2))) (fun _ h_ => h_.1))) hb); have n1_ := Aside0.mk (blk_below (g := gb248) (o := .cells #[.int .i64 ((rd_T38 t244 (ji8)).f0), .int .i64 ((rd_T38 t244 (ji8)).f1), .int .i64 ((rd_T38 t244 (ji8)).f2)] 38 (0, 0)) (by (with_reducible repeat (first | refine blk_drewN ?_ _ | refine blk_drew ?_ | refine blk_alloc ?_ _)); refine blk_put (cs := #[.int .i64 ((rd_T38 t244 (ji8)).f0), .int .i64 ((rd_T38 t244 (ji8)).f1), .int .i64 0]) ?_ 2 _ rfl; (with_reducible repeat (first | refine blk_drewN ?_ _ | refine blk_drew ?_ | refine blk_alloc ?_ _)); refine blk_put (cs := #[.int .i64 ((rd_T38 t244 (ji8)).f0), .int .i64 0, .int .i64 0]) ?_ 1 _ rfl; (with_reducible repeat (first | refine blk_drewN ?_ _ | refine blk_drew ?_ | refine blk_alloc ?_ _)); refine blk_put (cs := #[.int .i64 0, .int .i64 0, .int .i64 0]) ?_ 0 _ rfl; (with_reducible repeat (first | refine blk_drewN ?_ _ | refine blk_drew ?_ | refine blk_alloc ?_ _)); exact BK248.out) hb); have n2_ := Aside0.mk (below_step (by repeat (first | (with_reducible first | exact HB.out | apply below_alloc | apply pw_below_drewN | apply below_drew1 | refine below_set ?_ GE248.out) | exact HB.out)) hb); clear HO246; clear BK248; clear HB; have HO246 := n0_; have BK248 := n1_; have HB := n2_; clear n0_ n1_ n2_; (try clear hb); (try clear hb2); (try clear hk); (try clear hi); have hcz20_0 : w19.cell? ⟨gb248, 0, none⟩ = some (.int .i64 ((rd_T38 t244 (ji8)).f0)) := (blk_cell BK248.out 0).trans rfl; have hcz20_1 : w19.cell? ⟨gb248, 1, none⟩ = some (.int .i64 ((rd_T38 t244 (ji8)).f1)) := (blk_cell BK248.out 1).trans rfl; have hcz20_2 : w19.cell? ⟨gb248, 2, none⟩ = some (.int .i64 ((rd_T38 t244 (ji8)).f2)) := (blk_cell BK248.out 2).trans rfl; have hfz20_0 := blk_frozen BK248.out 0; have hfz20_1 := blk_frozen BK248.out 1; have hfz20_2 := blk_frozen BK248.out 2) | ((with_reducible refine gate_callee (f := 13) rfl ?_); refine goesL_ (some 47) rfl rfl Try.func13 (by kernel_rfl) rfl #[.int .i64 103, .int .i64 ((rd_T38 t244 (ji8)).f0)] rfl (by (try simp only [List.map_toArray, List.map_cons, List.map_nil]); first | done | (simp only [hji8]; rfl) | rfl | (simp only [List.length_drop, List.length_take]; rfl)) ?_; (with_reducible refine (csets_Get.calls k 103 ((rd_T38 t244 (ji8)).f0) t252 t253 _ A12.out).mono ?_); rintro e w21 ⟨rfl, hb⟩; refine ⟨_, rfl, ?_⟩; have n0_ := Aside0.mk (Kd.R_below (by (with_reducible repeat (first | apply Kd.R_alloc | apply Kd.R_drewN | apply Kd.R_drew)); exact HO246.out) hb); have n1_ := Aside0.mk (blk_below (g := gb248) (o := .cells #[.int .i64 ((rd_T38 t244 (ji8)).f0), .int .i64 ((rd_T38 t244 (ji8)).f1), .int .i64 ((rd_T38 t244 (ji8)).f2)] 38 (0, 0)) (by (with_reducible repeat (first | refine blk_drewN ?_ _ | refine blk_drew ?_ | refine blk_alloc ?_ _)); exact BK248.out) hb); have n2_ := Aside0.mk (below_step (by repeat (first | (with_reducible first | exact HB.out | apply below_alloc | apply pw_below_drewN | apply below_drew1 | refine below_set ?_ GE248.out) | exact HB.out)) hb); clear HO246; clear BK248; clear HB; have HO246 := n0_; have BK248 := n1_; have HB := n2_; clear n0_ n1_ n2_; (try clear hb); (try clear hb2); (try clear hk); (try clear hi); have hcz22_0 : w21.cell? ⟨gb248, 0, none⟩ = some (.int .i64 ((rd_T38 t244 (ji8)).f0)) := (blk_cell BK248.out 0).trans rfl; have hcz22_1 : w21.cell? ⟨gb248, 1, none⟩ = some (.int .i64 ((rd_T38 t244 (ji8)).f1)) := (blk_cell BK248.out 1).trans rfl; have hcz22_2 : w21.cell? ⟨gb248, 2, none⟩ = some (.int .i64 ((rd_T38 t244 (ji8)).f2)) := (blk_cell BK248.out 2).trans rfl; have hfz22_0 := blk_frozen BK248.out 0; have hfz22_1 := blk_frozen BK248.out 1; have hfz22_2 := blk_frozen BK248.out 2) | ((with_reducible refine gate_callee (f := 18) rfl ?_); refine goesL_ (some 53) rfl rfl Try.func18 (by kernel_rfl) rfl #[.int .i64 ((rd_T38 t244 (ji8)).f2)] rfl (by (try simp only [List.map_toArray, List.map_cons, List.map_nil]); first | done | (simp only [hji8]; rfl) | rfl | (simp only [List.length_drop, List.length_take]; rfl)) ?_; (with_reducible refine (csets_Accent.calls k ((rd_T38 t244 (ji8)).f2) t254 t255 t256 _ A13.out).mono ?_); rintro e w23 ⟨rfl, hb⟩; refine ⟨_, rfl, ?_⟩; have n0_ := Aside0.mk (Kd.R_below (by (with_reducible repeat (first | apply Kd.R_alloc | apply Kd.R_drewN | apply Kd.R_drew)); exact HO246.out) hb); have n1_ := Aside0.mk (blk_below (g := gb248) (o := .cells #[.int .i64 ((rd_T38 t244 (ji8)).f0), .int .i64 ((rd_T38 t244 (ji8)).f1), .int .i64 ((rd_T38 t244 (ji8)).f2)] 38 (0, 0)) (by (with_reducible repeat (first | refine blk_drewN ?_ _ | refine blk_drew ?_ | refine blk_alloc ?_ _)); exact BK248.out) hb); have n2_ := Aside0.mk (below_step (by repeat (first | (with_reducible first | exact HB.out | apply below_alloc | apply pw_below_drewN | apply below_drew1 | refine below_set ?_ GE248.out) | exact HB.out)) hb); clear HO246; clear BK248; clear HB; have HO246 := n0_; have BK248 := n1_; have HB := n2_; clear n0_ n1_ n2_; (try clear hb); (try clear hb2); (try clear hk); (try clear hi)))
     (try simp only [Act.put, List.setIfInBounds_toArray, List.set_cons_zero, List.set_cons_succ])
     go_cut [87] (fun v87 wc => ∃ (kq : Nat) (x87_13 : Bool), v87 = .bool x87_13 ∧ Aside0 (sobriquetlaw16_CsetsAccents.j0 kq a0 x87_13 = some r) ∧ Aside0 (kq ≤ k) ∧ Aside0 (wc.heap[gb248]? = some (.cells #[.int .i64 ((rd_T38 t244 (ji8)).f0), .int .i64 ((rd_T38 t244 (ji8)).f1), .int .i64 ((rd_T38 t244 (ji8)).f2)] 38 (0, 0))) ∧ Aside0 (Below w.heap.size w wc))
     case first =>
      have H := HC14.out
      clear HC14
      by_cases c24 : t251 = true
      ·subst c24
       have H1 : (if t249 = ((rd_T38 t244 (ji8)).f1) then (if t250 = ((rd_T38 t244 (ji8)).f2) then (if t253 = true then (sobriquetlaw16_CsetsAccents.j0 k a0 true) else (if t256 = true then (if t254 = ((rd_T38 t244 (ji8)).f0) then (sobriquetlaw16_CsetsAccents.j0 k a0 (t255 != 32)) else (sobriquetlaw16_CsetsAccents.j0 k a0 true)) else (sobriquetlaw16_CsetsAccents.j0 k a0 true))) else (sobriquetlaw16_CsetsAccents.j0 k a0 true)) else (sobriquetlaw16_CsetsAccents.j0 k a0 true)) = some r := by rw [if_pos rfl] at H; exact H
       clear H
       have H := H1
       clear H1
       by_cases c25 : t249 = ((rd_T38 t244 (ji8)).f1)
       ·rw [if_pos c25] at H
        have c25b0 : (t249 == ((rd_T38 t244 (ji8)).f1)) = true := beq_iff_eq.mpr c25
        have c25b1 : (t249 != ((rd_T38 t244 (ji8)).f1)) = false := bne_eq_false_iff_eq.mpr c25
        clear c25
        (first | rw [c25b0] | (simp only [i64_w, i32_w]; rw [c25b0]) | skip)
        by_cases c26 : t250 = ((rd_T38 t244 (ji8)).f2)
        ·rw [if_pos c26] at H
         have c26b0 : (t250 == ((rd_T38 t244 (ji8)).f2)) = true := beq_iff_eq.mpr c26
         have c26b1 : (t250 != ((rd_T38 t244 (ji8)).f2)) = false := bne_eq_false_iff_eq.mpr c26
         clear c26
         by_cases c27 : t253 = true
         ·subst c27
          have H1 : (sobriquetlaw16_CsetsAccents.j0 k a0 true) = some r := by rw [if_pos rfl] at H; exact H
          clear H
          have H := H1
          clear H1
          have H' := Aside0.mk H
          clear H
          have hcz28_0 : w23.cell? ⟨gb248, 0, none⟩ = some (.int .i64 ((rd_T38 t244 (ji8)).f0)) := (blk_cell BK248.out 0).trans rfl
          have hcz28_1 : w23.cell? ⟨gb248, 1, none⟩ = some (.int .i64 ((rd_T38 t244 (ji8)).f1)) := (blk_cell BK248.out 1).trans rfl
          have hcz28_2 : w23.cell? ⟨gb248, 2, none⟩ = some (.int .i64 ((rd_T38 t244 (ji8)).f2)) := (blk_cell BK248.out 2).trans rfl
          have hfz28_0 := blk_frozen BK248.out 0
          have hfz28_1 := blk_frozen BK248.out 1
          have hfz28_2 := blk_frozen BK248.out 2
          go_wp2
          go_meet
          case rel => exact ⟨_, (true), (by first | rfl | (simp; done) | (simp [*]; done)), H', ⟨by first | omega | exact Nat.le_refl _⟩, ⟨by (with_reducible repeat (first | refine blk_drewN ?_ _ | refine blk_drew ?_ | refine blk_alloc ?_ _)); exact BK248.out⟩, ⟨by repeat (first | (with_reducible first | exact HB.out | apply below_alloc | apply pw_below_drewN | apply below_drew1 | refine below_set ?_ GE248.out) | exact HB.out)⟩⟩
         ·replace c27 := Bool.eq_false_iff.mpr c27
          subst c27
          have H1 : (if t256 = true then (if t254 = ((rd_T38 t244 (ji8)).f0) then (sobriquetlaw16_CsetsAccents.j0 k a0 (t255 != 32)) else (sobriquetlaw16_CsetsAccents.j0 k a0 true)) else (sobriquetlaw16_CsetsAccents.j0 k a0 true)) = some r := by rw [if_neg (show ¬ (false = true) by decide)] at H; exact H
          clear H
          have H := H1
          clear H1
          by_cases c29 : t256 = true
          ·subst c29
           have H1 : (if t254 = ((rd_T38 t244 (ji8)).f0) then (sobriquetlaw16_CsetsAccents.j0 k a0 (t255 != 32)) else (sobriquetlaw16_CsetsAccents.j0 k a0 true)) = some r := by rw [if_pos rfl] at H; exact H
           clear H
           have H := H1
           clear H1
           by_cases c30 : t254 = ((rd_T38 t244 (ji8)).f0)
           ·rw [if_pos c30] at H
            have c30b0 : (t254 == ((rd_T38 t244 (ji8)).f0)) = true := beq_iff_eq.mpr c30
            have c30b1 : (t254 != ((rd_T38 t244 (ji8)).f0)) = false := bne_eq_false_iff_eq.mpr c30
            clear c30
            have H' := Aside0.mk H
            clear H
            have hcz31_0 : w23.cell? ⟨gb248, 0, none⟩ = some (.int .i64 ((rd_T38 t244 (ji8)).f0)) := (blk_cell BK248.out 0).trans rfl
            have hcz31_1 : w23.cell? ⟨gb248, 1, none⟩ = some (.int .i64 ((rd_T38 t244 (ji8)).f1)) := (blk_cell BK248.out 1).trans rfl
            have hcz31_2 : w23.cell? ⟨gb248, 2, none⟩ = some (.int .i64 ((rd_T38 t244 (ji8)).f2)) := (blk_cell BK248.out 2).trans rfl
            have hfz31_0 := blk_frozen BK248.out 0
            have hfz31_1 := blk_frozen BK248.out 1
            have hfz31_2 := blk_frozen BK248.out 2
            go_wp2
            go_meet
            case rel => exact ⟨_, ((t255 != 32)), (by first | rfl | (simp; done) | (simp [*]; done)), H', ⟨by first | omega | exact Nat.le_refl _⟩, ⟨by (with_reducible repeat (first | refine blk_drewN ?_ _ | refine blk_drew ?_ | refine blk_alloc ?_ _)); exact BK248.out⟩, ⟨by repeat (first | (with_reducible first | exact HB.out | apply below_alloc | apply pw_below_drewN | apply below_drew1 | refine below_set ?_ GE248.out) | exact HB.out)⟩⟩
           ·rw [if_neg c30] at H
            have c30b0 : (t254 == ((rd_T38 t244 (ji8)).f0)) = false := beq_eq_false_iff_ne.mpr c30
            have c30b1 : (t254 != ((rd_T38 t244 (ji8)).f0)) = true := bne_iff_ne.mpr c30
            have H' := Aside0.mk H
            clear H
            have hcz32_0 : w23.cell? ⟨gb248, 0, none⟩ = some (.int .i64 ((rd_T38 t244 (ji8)).f0)) := (blk_cell BK248.out 0).trans rfl
            have hcz32_1 : w23.cell? ⟨gb248, 1, none⟩ = some (.int .i64 ((rd_T38 t244 (ji8)).f1)) := (blk_cell BK248.out 1).trans rfl
            have hcz32_2 : w23.cell? ⟨gb248, 2, none⟩ = some (.int .i64 ((rd_T38 t244 (ji8)).f2)) := (blk_cell BK248.out 2).trans rfl
            have hfz32_0 := blk_frozen BK248.out 0
            have hfz32_1 := blk_frozen BK248.out 1
            have hfz32_2 := blk_frozen BK248.out 2
            go_wp2
            go_meet
            case rel => exact ⟨_, (true), (by first | rfl | (simp; done) | (simp [*]; done)), H', ⟨by first | omega | exact Nat.le_refl _⟩, ⟨by (with_reducible repeat (first | refine blk_drewN ?_ _ | refine blk_drew ?_ | refine blk_alloc ?_ _)); exact BK248.out⟩, ⟨by repeat (first | (with_reducible first | exact HB.out | apply below_alloc | apply pw_below_drewN | apply below_drew1 | refine below_set ?_ GE248.out) | exact HB.out)⟩⟩
          ·replace c29 := Bool.eq_false_iff.mpr c29
           subst c29
           have H1 : (sobriquetlaw16_CsetsAccents.j0 k a0 true) = some r := by rw [if_neg (show ¬ (false = true) by decide)] at H; exact H
           clear H
           have H := H1
           clear H1
           have H' := Aside0.mk H
           clear H
           have hcz33_0 : w23.cell? ⟨gb248, 0, none⟩ = some (.int .i64 ((rd_T38 t244 (ji8)).f0)) := (blk_cell BK248.out 0).trans rfl
           have hcz33_1 : w23.cell? ⟨gb248, 1, none⟩ = some (.int .i64 ((rd_T38 t244 (ji8)).f1)) := (blk_cell BK248.out 1).trans rfl
           have hcz33_2 : w23.cell? ⟨gb248, 2, none⟩ = some (.int .i64 ((rd_T38 t244 (ji8)).f2)) := (blk_cell BK248.out 2).trans rfl
           have hfz33_0 := blk_frozen BK248.out 0
           have hfz33_1 := blk_frozen BK248.out 1
           have hfz33_2 := blk_frozen BK248.out 2
           go_wp2
           go_meet
           case rel => exact ⟨_, (true), (by first | rfl | (simp; done) | (simp [*]; done)), H', ⟨by first | omega | exact Nat.le_refl _⟩, ⟨by (with_reducible repeat (first | refine blk_drewN ?_ _ | refine blk_drew ?_ | refine blk_alloc ?_ _)); exact BK248.out⟩, ⟨by repeat (first | (with_reducible first | exact HB.out | apply below_alloc | apply pw_below_drewN | apply below_drew1 | refine below_set ?_ GE248.out) | exact HB.out)⟩⟩
        ·rw [if_neg c26] at H
         have c26b0 : (t250 == ((rd_T38 t244 (ji8)).f2)) = false := beq_eq_false_iff_ne.mpr c26
         have c26b1 : (t250 != ((rd_T38 t244 (ji8)).f2)) = true := bne_iff_ne.mpr c26
         have H' := Aside0.mk H
         clear H
         have hcz34_0 : w23.cell? ⟨gb248, 0, none⟩ = some (.int .i64 ((rd_T38 t244 (ji8)).f0)) := (blk_cell BK248.out 0).trans rfl
         have hcz34_1 : w23.cell? ⟨gb248, 1, none⟩ = some (.int .i64 ((rd_T38 t244 (ji8)).f1)) := (blk_cell BK248.out 1).trans rfl
         have hcz34_2 : w23.cell? ⟨gb248, 2, none⟩ = some (.int .i64 ((rd_T38 t244 (ji8)).f2)) := (blk_cell BK248.out 2).trans rfl
         have hfz34_0 := blk_frozen BK248.out 0
         have hfz34_1 := blk_frozen BK248.out 1
         have hfz34_2 := blk_frozen BK248.out 2
         go_wp2
         go_meet
         case rel => exact ⟨_, (true), (by first | rfl | (simp; done) | (simp [*]; done)), H', ⟨by first | omega | exact Nat.le_refl _⟩, ⟨by (with_reducible repeat (first | refine blk_drewN ?_ _ | refine blk_drew ?_ | refine blk_alloc ?_ _)); exact BK248.out⟩, ⟨by repeat (first | (with_reducible first | exact HB.out | apply below_alloc | apply pw_below_drewN | apply below_drew1 | refine below_set ?_ GE248.out) | exact HB.out)⟩⟩
       ·rw [if_neg c25] at H
        have c25b0 : (t249 == ((rd_T38 t244 (ji8)).f1)) = false := beq_eq_false_iff_ne.mpr c25
        have c25b1 : (t249 != ((rd_T38 t244 (ji8)).f1)) = true := bne_iff_ne.mpr c25
        (first | rw [c25b0] | (simp only [i64_w, i32_w]; rw [c25b0]) | skip)
        have H' := Aside0.mk H
        clear H
        have hcz35_0 : w23.cell? ⟨gb248, 0, none⟩ = some (.int .i64 ((rd_T38 t244 (ji8)).f0)) := (blk_cell BK248.out 0).trans rfl
        have hcz35_1 : w23.cell? ⟨gb248, 1, none⟩ = some (.int .i64 ((rd_T38 t244 (ji8)).f1)) := (blk_cell BK248.out 1).trans rfl
        have hcz35_2 : w23.cell? ⟨gb248, 2, none⟩ = some (.int .i64 ((rd_T38 t244 (ji8)).f2)) := (blk_cell BK248.out 2).trans rfl
        have hfz35_0 := blk_frozen BK248.out 0
        have hfz35_1 := blk_frozen BK248.out 1
        have hfz35_2 := blk_frozen BK248.out 2
        go_wp2
        go_meet
        case rel => exact ⟨_, (true), (by first | rfl | (simp; done) | (simp [*]; done)), H', ⟨by first | omega | exact Nat.le_refl _⟩, ⟨by (with_reducible repeat (first | refine blk_drewN ?_ _ | refine blk_drew ?_ | refine blk_alloc ?_ _)); exact BK248.out⟩, ⟨by repeat (first | (with_reducible first | exact HB.out | apply below_alloc | apply pw_below_drewN | apply below_drew1 | refine below_set ?_ GE248.out) | exact HB.out)⟩⟩
      ·replace c24 := Bool.eq_false_iff.mpr c24
       subst c24
       have H1 : (sobriquetlaw16_CsetsAccents.j0 k a0 true) = some r := by rw [if_neg (show ¬ (false = true) by decide)] at H; exact H
       clear H
       have H := H1
       clear H1
       have H' := Aside0.mk H
       clear H
       go_wp2
       go_meet
       case rel => exact ⟨_, (true), (by first | rfl | (simp; done) | (simp [*]; done)), H', ⟨by first | omega | exact Nat.le_refl _⟩, ⟨by (with_reducible repeat (first | refine blk_drewN ?_ _ | refine blk_drew ?_ | refine blk_alloc ?_ _)); exact BK248.out⟩, ⟨by repeat (first | (with_reducible first | exact HB.out | apply below_alloc | apply pw_below_drewN | apply below_drew1 | refine below_set ?_ GE248.out) | exact HB.out)⟩⟩
     case rest =>
      clear HC14
      try clear c1
      try clear c2
      try clear p2
      try clear q2
      try clear hx2
      try clear c3
      try clear c4
      try clear c4b0
      try clear c4b1
      try clear c4b2
      try clear c5
      try clear p6
      try clear c7
      try clear c7b0
      try clear c7b1
      try clear c9
      try clear c9b0
      try clear c10
      try clear c10b0
      try clear c13
      try clear c16
      try clear c17
      try clear c18
      try clear c24
      try clear p24
      try clear q24
      try clear hx24
      try clear c25
      try clear c25b0
      try clear c25b1
      try clear c26
      try clear c26b0
      try clear c26b1
      try clear c27
      try clear c29
      try clear c30
      try clear c30b0
      try clear c30b1
      try clear hcz18_0
      try clear hcz18_1
      try clear hcz18_2
      try clear hcz20_0
      try clear hcz20_1
      try clear hcz20_2
      try clear hcz22_0
      try clear hcz22_1
      try clear hcz22_2
      try clear hcz28_0
      try clear hcz28_1
      try clear hcz28_2
      try clear hcz31_0
      try clear hcz31_1
      try clear hcz31_2
      try clear hcz32_0
      try clear hcz32_1
      try clear hcz32_2
      try clear hcz33_0
      try clear hcz33_1
      try clear hcz33_2
      try clear hcz34_0
      try clear hcz34_1
      try clear hcz34_2
      try clear hcz35_0
      try clear hcz35_1
      try clear hcz35_2
      try clear hfz18_0
      try clear hfz18_1
      try clear hfz18_2
      try clear hfz20_0
      try clear hfz20_1
      try clear hfz20_2
      try clear hfz22_0
      try clear hfz22_1
      try clear hfz22_2
      try clear hfz28_0
      try clear hfz28_1
      try clear hfz28_2
      try clear hfz31_0
      try clear hfz31_1
      try clear hfz31_2
      try clear hfz32_0
      try clear hfz32_1
      try clear hfz32_2
      try clear hfz33_0
      try clear hfz33_1
      try clear hfz33_2
      try clear hfz34_0
      try clear hfz34_1
      try clear hfz34_2
      try clear hfz35_0
      try clear hfz35_1
      try clear hfz35_2
      try clear hx247_0
      try clear hx247_1
      try clear hx247_2
      try clear p247
      try clear q247
      obtain ⟨kq, x87_13, rfl, HA, HJ13, BK248, HB⟩ := hcut
      cases kq with
      | zero => exact absurd HA.out (by simp [sobriquetlaw16_CsetsAccents.j0])
      | succ kj13 =>
       have H := HA.out
       clear HA
       simp only [sobriquetlaw16_CsetsAccents.j0] at H
       by_cases c36 : x87_13 = true
       ·subst c36
        have H1 : (some false) = some r := by rw [if_pos rfl] at H; exact H
        clear H
        have H := H1
        clear H1
        obtain rfl := Option.some.inj H
        go_wp2
        go_ret
        exact ⟨by first | rfl | (simp [errW_none, errW_some] <;> rfl) | (simp only [← hji8]; first | rfl | (simp [errW_none, errW_some] <;> rfl)) | (simp [*, errW_none, errW_some] <;> rfl), by repeat (first | (with_reducible first | exact HB.out | apply below_alloc | apply pw_below_drewN | apply below_drew1 | refine below_set ?_ GE248.out) | exact HB.out)⟩
       ·replace c36 := Bool.eq_false_iff.mpr c36
        subst c36
        have H1 : ((csets_Accent.f kj13 a0).bind fun bt257 => (if bt257.2.2 = true then ((csets_Mark.f kj13 bt257.1).bind fun bt261 => (if bt257.2.1 = 32 then (if bt261.2.2 = true then (if bt261.2.1 = a0 then ((sobriquetlaw16_wakes.f kj13).bind fun t264 => (some t264)) else (some false)) else (some false)) else ((ucd_Pair.f kj13 bt257.2.1 bt261.1).bind fun bt265 => (if bt261.2.2 = true then (if bt265.2 = true then (if bt265.1 = a0 then (if bt257.2.1 ≥ 65 then (if bt257.2.1 ≤ 90 then ((sobriquetlaw16_wakes.f kj13).bind fun t267 => (some t267)) else (if bt257.2.1 ≥ 97 then (if bt257.2.1 ≤ 122 then ((sobriquetlaw16_wakes.f kj13).bind fun t268 => (some t268)) else (some false)) else (some false))) else (if bt257.2.1 ≥ 97 then (if bt257.2.1 ≤ 122 then ((sobriquetlaw16_wakes.f kj13).bind fun t269 => (some t269)) else (some false)) else (some false))) else (some false)) else (some false)) else (some false))))) else (if bt257.1 = 0 then (if bt257.2.1 = 0 then ((sobriquetlaw16_wakes.f kj13).bind fun t260 => (some t260)) else (some false)) else (some false)))) = some r := by rw [if_neg (show ¬ (false = true) by decide)] at H; exact H
        clear H
        have H := H1
        clear H1
        replace H := Option.bind_eq_some_iff.mp H
        obtain ⟨⟨t257, t258, t259⟩, A370, H⟩ := H
        replace H : (if t259 = true then ((csets_Mark.f kj13 t257).bind fun bt261 => (if t258 = 32 then (if bt261.2.2 = true then (if bt261.2.1 = a0 then ((sobriquetlaw16_wakes.f kj13).bind fun t264 => (some t264)) else (some false)) else (some false)) else ((ucd_Pair.f kj13 t258 bt261.1).bind fun bt265 => (if bt261.2.2 = true then (if bt265.2 = true then (if bt265.1 = a0 then (if t258 ≥ 65 then (if t258 ≤ 90 then ((sobriquetlaw16_wakes.f kj13).bind fun t267 => (some t267)) else (if t258 ≥ 97 then (if t258 ≤ 122 then ((sobriquetlaw16_wakes.f kj13).bind fun t268 => (some t268)) else (some false)) else (some false))) else (if t258 ≥ 97 then (if t258 ≤ 122 then ((sobriquetlaw16_wakes.f kj13).bind fun t269 => (some t269)) else (some false)) else (some false))) else (some false)) else (some false)) else (some false))))) else (if t257 = 0 then (if t258 = 0 then ((sobriquetlaw16_wakes.f kj13).bind fun t260 => (some t260)) else (some false)) else (some false))) = some r := H
        have A37 := Aside0.mk A370
        clear A370
        by_cases c38 : t259 = true
        ·subst c38
         have H1 : ((csets_Mark.f kj13 t257).bind fun bt261 => (if t258 = 32 then (if bt261.2.2 = true then (if bt261.2.1 = a0 then ((sobriquetlaw16_wakes.f kj13).bind fun t264 => (some t264)) else (some false)) else (some false)) else ((ucd_Pair.f kj13 t258 bt261.1).bind fun bt265 => (if bt261.2.2 = true then (if bt265.2 = true then (if bt265.1 = a0 then (if t258 ≥ 65 then (if t258 ≤ 90 then ((sobriquetlaw16_wakes.f kj13).bind fun t267 => (some t267)) else (if t258 ≥ 97 then (if t258 ≤ 122 then ((sobriquetlaw16_wakes.f kj13).bind fun t268 => (some t268)) else (some false)) else (some false))) else (if t258 ≥ 97 then (if t258 ≤ 122 then ((sobriquetlaw16_wakes.f kj13).bind fun t269 => (some t269)) else (some false)) else (some false))) else (some false)) else (some false)) else (some false))))) = some r := by rw [if_pos rfl] at H; exact H
         clear H
         have H := H1
         clear H1
         replace H := Option.bind_eq_some_iff.mp H
         obtain ⟨⟨t261, t262, t263⟩, A390, H⟩ := H
         replace H : (if t258 = 32 then (if t263 = true then (if t262 = a0 then ((sobriquetlaw16_wakes.f kj13).bind fun t264 => (some t264)) else (some false)) else (some false)) else ((ucd_Pair.f kj13 t258 t261).bind fun bt265 => (if t263 = true then (if bt265.2 = true then (if bt265.1 = a0 then (if t258 ≥ 65 then (if t258 ≤ 90 then ((sobriquetlaw16_wakes.f kj13).bind fun t267 => (some t267)) else (if t258 ≥ 97 then (if t258 ≤ 122 then ((sobriquetlaw16_wakes.f kj13).bind fun t268 => (some t268)) else (some false)) else (some false))) else (if t258 ≥ 97 then (if t258 ≤ 122 then ((sobriquetlaw16_wakes.f kj13).bind fun t269 => (some t269)) else (some false)) else (some false))) else (some false)) else (some false)) else (some false)))) = some r := H
         have A39 := Aside0.mk A390
         clear A390
         by_cases c40 : t258 = 32
         ·rw [if_pos c40] at H
          have c40b0 : (t258 == 32) = true := beq_iff_eq.mpr c40
          have c40b1 : (t258 != 32) = false := bne_eq_false_iff_eq.mpr c40
          clear c40
          by_cases c41 : t263 = true
          ·subst c41
           have H1 : (if t262 = a0 then ((sobriquetlaw16_wakes.f kj13).bind fun t264 => (some t264)) else (some false)) = some r := by rw [if_pos rfl] at H; exact H
           clear H
           have H := H1
           clear H1
           by_cases c42 : t262 = a0
           ·rw [if_pos c42] at H
            have c42b0 : (t262 == a0) = true := beq_iff_eq.mpr c42
            have c42b1 : (t262 != a0) = false := bne_eq_false_iff_eq.mpr c42
            clear c42
            replace H := Option.bind_eq_some_iff.mp H
            obtain ⟨t264, A430, H⟩ := H
            replace H : (some t264) = some r := H
            have A43 := Aside0.mk A430
            clear A430
            obtain rfl := Option.some.inj H
            go_wp2_with (first | ((with_reducible refine gate_callee (f := 18) rfl ?_); refine goesL_ (some 90) rfl rfl Try.func18 (by kernel_rfl) rfl #[.int .i64 a0] rfl (by (try simp only [List.map_toArray, List.map_cons, List.map_nil]); first | done | rfl | (simp only [List.length_drop, List.length_take]; rfl)) ?_; (with_reducible refine (csets_Accent.calls kj13 a0 t257 t258 true _ A37.out).mono ?_); rintro e w44 ⟨rfl, hb⟩; refine ⟨_, rfl, ?_⟩; have n0_ := Aside0.mk (blk_below (g := gb248) (o := .cells #[.int .i64 ((rd_T38 t244 (ji8)).f0), .int .i64 ((rd_T38 t244 (ji8)).f1), .int .i64 ((rd_T38 t244 (ji8)).f2)] 38 (0, 0)) (by (with_reducible repeat (first | refine blk_drewN ?_ _ | refine blk_drew ?_ | refine blk_alloc ?_ _)); exact BK248.out) hb); have n1_ := Aside0.mk (below_step (by repeat (first | (with_reducible first | exact HB.out | apply below_alloc | apply pw_below_drewN | apply below_drew1 | refine below_set ?_ GE248.out) | exact HB.out)) hb); clear BK248; clear HB; have BK248 := n0_; have HB := n1_; clear n0_ n1_; (try clear hb); (try clear hb2); (try clear hk); (try clear hi)) | ((with_reducible refine gate_callee (f := 17) rfl ?_); refine goesL_ (some 107) rfl rfl Try.func17 (by kernel_rfl) rfl #[.int .i64 t257] rfl (by (try simp only [List.map_toArray, List.map_cons, List.map_nil]); first | done | rfl | (simp only [List.length_drop, List.length_take]; rfl)) ?_; (with_reducible refine (csets_Mark.calls kj13 t257 t261 t262 true _ A39.out).mono ?_); rintro e w45 ⟨rfl, hb⟩; refine ⟨_, rfl, ?_⟩; have n0_ := Aside0.mk (blk_below (g := gb248) (o := .cells #[.int .i64 ((rd_T38 t244 (ji8)).f0), .int .i64 ((rd_T38 t244 (ji8)).f1), .int .i64 ((rd_T38 t244 (ji8)).f2)] 38 (0, 0)) (by (with_reducible repeat (first | refine blk_drewN ?_ _ | refine blk_drew ?_ | refine blk_alloc ?_ _)); exact BK248.out) hb); have n1_ := Aside0.mk (below_step (by repeat (first | (with_reducible first | exact HB.out | apply below_alloc | apply pw_below_drewN | apply below_drew1 | refine below_set ?_ GE248.out) | exact HB.out)) hb); clear BK248; clear HB; have BK248 := n0_; have HB := n1_; clear n0_ n1_; (try clear hb); (try clear hb2); (try clear hk); (try clear hi)) | (go_at_call 11; (with_reducible refine (sobriquetlaw16_wakes.calls kj13  t264 _ A43.out).mono ?_); rintro e w46 ⟨rfl, hb⟩; have n0_ := Aside0.mk (blk_below (g := gb248) (o := .cells #[.int .i64 ((rd_T38 t244 (ji8)).f0), .int .i64 ((rd_T38 t244 (ji8)).f1), .int .i64 ((rd_T38 t244 (ji8)).f2)] 38 (0, 0)) (by (with_reducible repeat (first | refine blk_drewN ?_ _ | refine blk_drew ?_ | refine blk_alloc ?_ _)); exact BK248.out) hb); have n1_ := Aside0.mk (below_step (by repeat (first | (with_reducible first | exact HB.out | apply below_alloc | apply pw_below_drewN | apply below_drew1 | refine below_set ?_ GE248.out) | exact HB.out)) hb); clear BK248; clear HB; have BK248 := n0_; have HB := n1_; clear n0_ n1_; (try clear hb); (try clear hb2); (try clear hk); (try clear hi)))
            go_ret
            exact ⟨by first | rfl | (simp [errW_none, errW_some] <;> rfl) | (simp only [← hji8]; first | rfl | (simp [errW_none, errW_some] <;> rfl)) | (simp [*, errW_none, errW_some] <;> rfl), by repeat (first | (with_reducible first | exact HB.out | apply below_alloc | apply pw_below_drewN | apply below_drew1 | refine below_set ?_ GE248.out) | exact HB.out)⟩
           ·rw [if_neg c42] at H
            have c42b0 : (t262 == a0) = false := beq_eq_false_iff_ne.mpr c42
            have c42b1 : (t262 != a0) = true := bne_iff_ne.mpr c42
            obtain rfl := Option.some.inj H
            go_wp2_with (first | ((with_reducible refine gate_callee (f := 18) rfl ?_); refine goesL_ (some 90) rfl rfl Try.func18 (by kernel_rfl) rfl #[.int .i64 a0] rfl (by (try simp only [List.map_toArray, List.map_cons, List.map_nil]); first | done | rfl | (simp only [List.length_drop, List.length_take]; rfl)) ?_; (with_reducible refine (csets_Accent.calls kj13 a0 t257 t258 true _ A37.out).mono ?_); rintro e w47 ⟨rfl, hb⟩; refine ⟨_, rfl, ?_⟩; have n0_ := Aside0.mk (blk_below (g := gb248) (o := .cells #[.int .i64 ((rd_T38 t244 (ji8)).f0), .int .i64 ((rd_T38 t244 (ji8)).f1), .int .i64 ((rd_T38 t244 (ji8)).f2)] 38 (0, 0)) (by (with_reducible repeat (first | refine blk_drewN ?_ _ | refine blk_drew ?_ | refine blk_alloc ?_ _)); exact BK248.out) hb); have n1_ := Aside0.mk (below_step (by repeat (first | (with_reducible first | exact HB.out | apply below_alloc | apply pw_below_drewN | apply below_drew1 | refine below_set ?_ GE248.out) | exact HB.out)) hb); clear BK248; clear HB; have BK248 := n0_; have HB := n1_; clear n0_ n1_; (try clear hb); (try clear hb2); (try clear hk); (try clear hi)) | ((with_reducible refine gate_callee (f := 17) rfl ?_); refine goesL_ (some 107) rfl rfl Try.func17 (by kernel_rfl) rfl #[.int .i64 t257] rfl (by (try simp only [List.map_toArray, List.map_cons, List.map_nil]); first | done | rfl | (simp only [List.length_drop, List.length_take]; rfl)) ?_; (with_reducible refine (csets_Mark.calls kj13 t257 t261 t262 true _ A39.out).mono ?_); rintro e w48 ⟨rfl, hb⟩; refine ⟨_, rfl, ?_⟩; have n0_ := Aside0.mk (blk_below (g := gb248) (o := .cells #[.int .i64 ((rd_T38 t244 (ji8)).f0), .int .i64 ((rd_T38 t244 (ji8)).f1), .int .i64 ((rd_T38 t244 (ji8)).f2)] 38 (0, 0)) (by (with_reducible repeat (first | refine blk_drewN ?_ _ | refine blk_drew ?_ | refine blk_alloc ?_ _)); exact BK248.out) hb); have n1_ := Aside0.mk (below_step (by repeat (first | (with_reducible first | exact HB.out | apply below_alloc | apply pw_below_drewN | apply below_drew1 | refine below_set ?_ GE248.out) | exact HB.out)) hb); clear BK248; clear HB; have BK248 := n0_; have HB := n1_; clear n0_ n1_; (try clear hb); (try clear hb2); (try clear hk); (try clear hi)))
            go_ret
            exact ⟨by first | rfl | (simp [errW_none, errW_some] <;> rfl) | (simp only [← hji8]; first | rfl | (simp [errW_none, errW_some] <;> rfl)) | (simp [*, errW_none, errW_some] <;> rfl), by repeat (first | (with_reducible first | exact HB.out | apply below_alloc | apply pw_below_drewN | apply below_drew1 | refine below_set ?_ GE248.out) | exact HB.out)⟩
          ·replace c41 := Bool.eq_false_iff.mpr c41
           subst c41
           have H1 : (some false) = some r := by rw [if_neg (show ¬ (false = true) by decide)] at H; exact H
           clear H
           have H := H1
           clear H1
           obtain rfl := Option.some.inj H
           go_wp2_with (first | ((with_reducible refine gate_callee (f := 18) rfl ?_); refine goesL_ (some 90) rfl rfl Try.func18 (by kernel_rfl) rfl #[.int .i64 a0] rfl (by (try simp only [List.map_toArray, List.map_cons, List.map_nil]); first | done | rfl | (simp only [List.length_drop, List.length_take]; rfl)) ?_; (with_reducible refine (csets_Accent.calls kj13 a0 t257 t258 true _ A37.out).mono ?_); rintro e w49 ⟨rfl, hb⟩; refine ⟨_, rfl, ?_⟩; have n0_ := Aside0.mk (blk_below (g := gb248) (o := .cells #[.int .i64 ((rd_T38 t244 (ji8)).f0), .int .i64 ((rd_T38 t244 (ji8)).f1), .int .i64 ((rd_T38 t244 (ji8)).f2)] 38 (0, 0)) (by (with_reducible repeat (first | refine blk_drewN ?_ _ | refine blk_drew ?_ | refine blk_alloc ?_ _)); exact BK248.out) hb); have n1_ := Aside0.mk (below_step (by repeat (first | (with_reducible first | exact HB.out | apply below_alloc | apply pw_below_drewN | apply below_drew1 | refine below_set ?_ GE248.out) | exact HB.out)) hb); clear BK248; clear HB; have BK248 := n0_; have HB := n1_; clear n0_ n1_; (try clear hb); (try clear hb2); (try clear hk); (try clear hi)) | ((with_reducible refine gate_callee (f := 17) rfl ?_); refine goesL_ (some 107) rfl rfl Try.func17 (by kernel_rfl) rfl #[.int .i64 t257] rfl (by (try simp only [List.map_toArray, List.map_cons, List.map_nil]); first | done | rfl | (simp only [List.length_drop, List.length_take]; rfl)) ?_; (with_reducible refine (csets_Mark.calls kj13 t257 t261 t262 false _ A39.out).mono ?_); rintro e w50 ⟨rfl, hb⟩; refine ⟨_, rfl, ?_⟩; have n0_ := Aside0.mk (blk_below (g := gb248) (o := .cells #[.int .i64 ((rd_T38 t244 (ji8)).f0), .int .i64 ((rd_T38 t244 (ji8)).f1), .int .i64 ((rd_T38 t244 (ji8)).f2)] 38 (0, 0)) (by (with_reducible repeat (first | refine blk_drewN ?_ _ | refine blk_drew ?_ | refine blk_alloc ?_ _)); exact BK248.out) hb); have n1_ := Aside0.mk (below_step (by repeat (first | (with_reducible first | exact HB.out | apply below_alloc | apply pw_below_drewN | apply below_drew1 | refine below_set ?_ GE248.out) | exact HB.out)) hb); clear BK248; clear HB; have BK248 := n0_; have HB := n1_; clear n0_ n1_; (try clear hb); (try clear hb2); (try clear hk); (try clear hi)))
           go_ret
           exact ⟨by first | rfl | (simp [errW_none, errW_some] <;> rfl) | (simp only [← hji8]; first | rfl | (simp [errW_none, errW_some] <;> rfl)) | (simp [*, errW_none, errW_some] <;> rfl), by repeat (first | (with_reducible first | exact HB.out | apply below_alloc | apply pw_below_drewN | apply below_drew1 | refine below_set ?_ GE248.out) | exact HB.out)⟩
         ·rw [if_neg c40] at H
          have c40b0 : (t258 == 32) = false := beq_eq_false_iff_ne.mpr c40
          have c40b1 : (t258 != 32) = true := bne_iff_ne.mpr c40
          replace H := Option.bind_eq_some_iff.mp H
          obtain ⟨⟨t265, t266⟩, A510, H⟩ := H
          replace H : (if t263 = true then (if t266 = true then (if t265 = a0 then (if t258 ≥ 65 then (if t258 ≤ 90 then ((sobriquetlaw16_wakes.f kj13).bind fun t267 => (some t267)) else (if t258 ≥ 97 then (if t258 ≤ 122 then ((sobriquetlaw16_wakes.f kj13).bind fun t268 => (some t268)) else (some false)) else (some false))) else (if t258 ≥ 97 then (if t258 ≤ 122 then ((sobriquetlaw16_wakes.f kj13).bind fun t269 => (some t269)) else (some false)) else (some false))) else (some false)) else (some false)) else (some false)) = some r := H
          have A51 := Aside0.mk A510
          clear A510
          by_cases c52 : t263 = true
          ·subst c52
           have H1 : (if t266 = true then (if t265 = a0 then (if t258 ≥ 65 then (if t258 ≤ 90 then ((sobriquetlaw16_wakes.f kj13).bind fun t267 => (some t267)) else (if t258 ≥ 97 then (if t258 ≤ 122 then ((sobriquetlaw16_wakes.f kj13).bind fun t268 => (some t268)) else (some false)) else (some false))) else (if t258 ≥ 97 then (if t258 ≤ 122 then ((sobriquetlaw16_wakes.f kj13).bind fun t269 => (some t269)) else (some false)) else (some false))) else (some false)) else (some false)) = some r := by rw [if_pos rfl] at H; exact H
           clear H
           have H := H1
           clear H1
           by_cases c53 : t266 = true
           ·subst c53
            have H1 : (if t265 = a0 then (if t258 ≥ 65 then (if t258 ≤ 90 then ((sobriquetlaw16_wakes.f kj13).bind fun t267 => (some t267)) else (if t258 ≥ 97 then (if t258 ≤ 122 then ((sobriquetlaw16_wakes.f kj13).bind fun t268 => (some t268)) else (some false)) else (some false))) else (if t258 ≥ 97 then (if t258 ≤ 122 then ((sobriquetlaw16_wakes.f kj13).bind fun t269 => (some t269)) else (some false)) else (some false))) else (some false)) = some r := by rw [if_pos rfl] at H; exact H
            clear H
            have H := H1
            clear H1
            by_cases c54 : t265 = a0
            ·rw [if_pos c54] at H
             have c54b0 : (t265 == a0) = true := beq_iff_eq.mpr c54
             have c54b1 : (t265 != a0) = false := bne_eq_false_iff_eq.mpr c54
             clear c54
             by_cases c55 : t258 ≥ 65
             ·rw [if_pos c55] at H
              have c55b0 : decide (65 ≤ t258) = true := decide_eq_true c55
              clear c55
              by_cases c56 : t258 ≤ 90
              ·rw [if_pos c56] at H
               have c56b0 : decide (t258 ≤ 90) = true := decide_eq_true c56
               clear c56
               replace H := Option.bind_eq_some_iff.mp H
               obtain ⟨t267, A570, H⟩ := H
               replace H : (some t267) = some r := H
               have A57 := Aside0.mk A570
               clear A570
               obtain rfl := Option.some.inj H
               go_wp2_with (first | ((with_reducible refine gate_callee (f := 18) rfl ?_); refine goesL_ (some 90) rfl rfl Try.func18 (by kernel_rfl) rfl #[.int .i64 a0] rfl (by (try simp only [List.map_toArray, List.map_cons, List.map_nil]); first | done | rfl | (simp only [List.length_drop, List.length_take]; rfl)) ?_; (with_reducible refine (csets_Accent.calls kj13 a0 t257 t258 true _ A37.out).mono ?_); rintro e w58 ⟨rfl, hb⟩; refine ⟨_, rfl, ?_⟩; have n0_ := Aside0.mk (blk_below (g := gb248) (o := .cells #[.int .i64 ((rd_T38 t244 (ji8)).f0), .int .i64 ((rd_T38 t244 (ji8)).f1), .int .i64 ((rd_T38 t244 (ji8)).f2)] 38 (0, 0)) (by (with_reducible repeat (first | refine blk_drewN ?_ _ | refine blk_drew ?_ | refine blk_alloc ?_ _)); exact BK248.out) hb); have n1_ := Aside0.mk (below_step (by repeat (first | (with_reducible first | exact HB.out | apply below_alloc | apply pw_below_drewN | apply below_drew1 | refine below_set ?_ GE248.out) | exact HB.out)) hb); clear BK248; clear HB; have BK248 := n0_; have HB := n1_; clear n0_ n1_; (try clear hb); (try clear hb2); (try clear hk); (try clear hi)) | ((with_reducible refine gate_callee (f := 17) rfl ?_); refine goesL_ (some 107) rfl rfl Try.func17 (by kernel_rfl) rfl #[.int .i64 t257] rfl (by (try simp only [List.map_toArray, List.map_cons, List.map_nil]); first | done | rfl | (simp only [List.length_drop, List.length_take]; rfl)) ?_; (with_reducible refine (csets_Mark.calls kj13 t257 t261 t262 true _ A39.out).mono ?_); rintro e w59 ⟨rfl, hb⟩; refine ⟨_, rfl, ?_⟩; have n0_ := Aside0.mk (blk_below (g := gb248) (o := .cells #[.int .i64 ((rd_T38 t244 (ji8)).f0), .int .i64 ((rd_T38 t244 (ji8)).f1), .int .i64 ((rd_T38 t244 (ji8)).f2)] 38 (0, 0)) (by (with_reducible repeat (first | refine blk_drewN ?_ _ | refine blk_drew ?_ | refine blk_alloc ?_ _)); exact BK248.out) hb); have n1_ := Aside0.mk (below_step (by repeat (first | (with_reducible first | exact HB.out | apply below_alloc | apply pw_below_drewN | apply below_drew1 | refine below_set ?_ GE248.out) | exact HB.out)) hb); clear BK248; clear HB; have BK248 := n0_; have HB := n1_; clear n0_ n1_; (try clear hb); (try clear hb2); (try clear hk); (try clear hi)) | ((with_reducible refine gate_callee (f := 19) rfl ?_); refine goesL_ (some 125) rfl rfl Try.func19 (by kernel_rfl) rfl #[.int .i64 t258, .int .i64 t261] rfl (by (try simp only [List.map_toArray, List.map_cons, List.map_nil]); first | done | rfl | (simp only [List.length_drop, List.length_take]; rfl)) ?_; (with_reducible refine (ucd_Pair.calls kj13 t258 t261 t265 true _ A51.out).mono ?_); rintro e w60 ⟨rfl, hb⟩; refine ⟨_, rfl, ?_⟩; have n0_ := Aside0.mk (blk_below (g := gb248) (o := .cells #[.int .i64 ((rd_T38 t244 (ji8)).f0), .int .i64 ((rd_T38 t244 (ji8)).f1), .int .i64 ((rd_T38 t244 (ji8)).f2)] 38 (0, 0)) (by (with_reducible repeat (first | refine blk_drewN ?_ _ | refine blk_drew ?_ | refine blk_alloc ?_ _)); exact BK248.out) hb); have n1_ := Aside0.mk (below_step (by repeat (first | (with_reducible first | exact HB.out | apply below_alloc | apply pw_below_drewN | apply below_drew1 | refine below_set ?_ GE248.out) | exact HB.out)) hb); clear BK248; clear HB; have BK248 := n0_; have HB := n1_; clear n0_ n1_; (try clear hb); (try clear hb2); (try clear hk); (try clear hi)) | (go_at_call 11; (with_reducible refine (sobriquetlaw16_wakes.calls kj13  t267 _ A57.out).mono ?_); rintro e w61 ⟨rfl, hb⟩; have n0_ := Aside0.mk (blk_below (g := gb248) (o := .cells #[.int .i64 ((rd_T38 t244 (ji8)).f0), .int .i64 ((rd_T38 t244 (ji8)).f1), .int .i64 ((rd_T38 t244 (ji8)).f2)] 38 (0, 0)) (by (with_reducible repeat (first | refine blk_drewN ?_ _ | refine blk_drew ?_ | refine blk_alloc ?_ _)); exact BK248.out) hb); have n1_ := Aside0.mk (below_step (by repeat (first | (with_reducible first | exact HB.out | apply below_alloc | apply pw_below_drewN | apply below_drew1 | refine below_set ?_ GE248.out) | exact HB.out)) hb); clear BK248; clear HB; have BK248 := n0_; have HB := n1_; clear n0_ n1_; (try clear hb); (try clear hb2); (try clear hk); (try clear hi)))
               go_ret
               exact ⟨by first | rfl | (simp [errW_none, errW_some] <;> rfl) | (simp only [← hji8]; first | rfl | (simp [errW_none, errW_some] <;> rfl)) | (simp [*, errW_none, errW_some] <;> rfl), by repeat (first | (with_reducible first | exact HB.out | apply below_alloc | apply pw_below_drewN | apply below_drew1 | refine below_set ?_ GE248.out) | exact HB.out)⟩
              ·rw [if_neg c56] at H
               have c56b0 : decide (t258 ≤ 90) = false := decide_eq_false c56
               clear c56
               by_cases c62 : t258 ≥ 97
               ·rw [if_pos c62] at H
                have c62b0 : decide (97 ≤ t258) = true := decide_eq_true c62
                clear c62
                by_cases c63 : t258 ≤ 122
                ·rw [if_pos c63] at H
                 have c63b0 : decide (t258 ≤ 122) = true := decide_eq_true c63
                 clear c63
                 replace H := Option.bind_eq_some_iff.mp H
                 obtain ⟨t268, A640, H⟩ := H
                 replace H : (some t268) = some r := H
                 have A64 := Aside0.mk A640
                 clear A640
                 obtain rfl := Option.some.inj H
                 go_wp2_with (first | ((with_reducible refine gate_callee (f := 18) rfl ?_); refine goesL_ (some 90) rfl rfl Try.func18 (by kernel_rfl) rfl #[.int .i64 a0] rfl (by (try simp only [List.map_toArray, List.map_cons, List.map_nil]); first | done | rfl | (simp only [List.length_drop, List.length_take]; rfl)) ?_; (with_reducible refine (csets_Accent.calls kj13 a0 t257 t258 true _ A37.out).mono ?_); rintro e w65 ⟨rfl, hb⟩; refine ⟨_, rfl, ?_⟩; have n0_ := Aside0.mk (blk_below (g := gb248) (o := .cells #[.int .i64 ((rd_T38 t244 (ji8)).f0), .int .i64 ((rd_T38 t244 (ji8)).f1), .int .i64 ((rd_T38 t244 (ji8)).f2)] 38 (0, 0)) (by (with_reducible repeat (first | refine blk_drewN ?_ _ | refine blk_drew ?_ | refine blk_alloc ?_ _)); exact BK248.out) hb); have n1_ := Aside0.mk (below_step (by repeat (first | (with_reducible first | exact HB.out | apply below_alloc | apply pw_below_drewN | apply below_drew1 | refine below_set ?_ GE248.out) | exact HB.out)) hb); clear BK248; clear HB; have BK248 := n0_; have HB := n1_; clear n0_ n1_; (try clear hb); (try clear hb2); (try clear hk); (try clear hi)) | ((with_reducible refine gate_callee (f := 17) rfl ?_); refine goesL_ (some 107) rfl rfl Try.func17 (by kernel_rfl) rfl #[.int .i64 t257] rfl (by (try simp only [List.map_toArray, List.map_cons, List.map_nil]); first | done | rfl | (simp only [List.length_drop, List.length_take]; rfl)) ?_; (with_reducible refine (csets_Mark.calls kj13 t257 t261 t262 true _ A39.out).mono ?_); rintro e w66 ⟨rfl, hb⟩; refine ⟨_, rfl, ?_⟩; have n0_ := Aside0.mk (blk_below (g := gb248) (o := .cells #[.int .i64 ((rd_T38 t244 (ji8)).f0), .int .i64 ((rd_T38 t244 (ji8)).f1), .int .i64 ((rd_T38 t244 (ji8)).f2)] 38 (0, 0)) (by (with_reducible repeat (first | refine blk_drewN ?_ _ | refine blk_drew ?_ | refine blk_alloc ?_ _)); exact BK248.out) hb); have n1_ := Aside0.mk (below_step (by repeat (first | (with_reducible first | exact HB.out | apply below_alloc | apply pw_below_drewN | apply below_drew1 | refine below_set ?_ GE248.out) | exact HB.out)) hb); clear BK248; clear HB; have BK248 := n0_; have HB := n1_; clear n0_ n1_; (try clear hb); (try clear hb2); (try clear hk); (try clear hi)) | ((with_reducible refine gate_callee (f := 19) rfl ?_); refine goesL_ (some 125) rfl rfl Try.func19 (by kernel_rfl) rfl #[.int .i64 t258, .int .i64 t261] rfl (by (try simp only [List.map_toArray, List.map_cons, List.map_nil]); first | done | rfl | (simp only [List.length_drop, List.length_take]; rfl)) ?_; (with_reducible refine (ucd_Pair.calls kj13 t258 t261 t265 true _ A51.out).mono ?_); rintro e w67 ⟨rfl, hb⟩; refine ⟨_, rfl, ?_⟩; have n0_ := Aside0.mk (blk_below (g := gb248) (o := .cells #[.int .i64 ((rd_T38 t244 (ji8)).f0), .int .i64 ((rd_T38 t244 (ji8)).f1), .int .i64 ((rd_T38 t244 (ji8)).f2)] 38 (0, 0)) (by (with_reducible repeat (first | refine blk_drewN ?_ _ | refine blk_drew ?_ | refine blk_alloc ?_ _)); exact BK248.out) hb); have n1_ := Aside0.mk (below_step (by repeat (first | (with_reducible first | exact HB.out | apply below_alloc | apply pw_below_drewN | apply below_drew1 | refine below_set ?_ GE248.out) | exact HB.out)) hb); clear BK248; clear HB; have BK248 := n0_; have HB := n1_; clear n0_ n1_; (try clear hb); (try clear hb2); (try clear hk); (try clear hi)) | (go_at_call 11; (with_reducible refine (sobriquetlaw16_wakes.calls kj13  t268 _ A64.out).mono ?_); rintro e w68 ⟨rfl, hb⟩; have n0_ := Aside0.mk (blk_below (g := gb248) (o := .cells #[.int .i64 ((rd_T38 t244 (ji8)).f0), .int .i64 ((rd_T38 t244 (ji8)).f1), .int .i64 ((rd_T38 t244 (ji8)).f2)] 38 (0, 0)) (by (with_reducible repeat (first | refine blk_drewN ?_ _ | refine blk_drew ?_ | refine blk_alloc ?_ _)); exact BK248.out) hb); have n1_ := Aside0.mk (below_step (by repeat (first | (with_reducible first | exact HB.out | apply below_alloc | apply pw_below_drewN | apply below_drew1 | refine below_set ?_ GE248.out) | exact HB.out)) hb); clear BK248; clear HB; have BK248 := n0_; have HB := n1_; clear n0_ n1_; (try clear hb); (try clear hb2); (try clear hk); (try clear hi)))
                 go_ret
                 exact ⟨by first | rfl | (simp [errW_none, errW_some] <;> rfl) | (simp only [← hji8]; first | rfl | (simp [errW_none, errW_some] <;> rfl)) | (simp [*, errW_none, errW_some] <;> rfl), by repeat (first | (with_reducible first | exact HB.out | apply below_alloc | apply pw_below_drewN | apply below_drew1 | refine below_set ?_ GE248.out) | exact HB.out)⟩
                ·rw [if_neg c63] at H
                 have c63b0 : decide (t258 ≤ 122) = false := decide_eq_false c63
                 clear c63
                 obtain rfl := Option.some.inj H
                 go_wp2_with (first | ((with_reducible refine gate_callee (f := 18) rfl ?_); refine goesL_ (some 90) rfl rfl Try.func18 (by kernel_rfl) rfl #[.int .i64 a0] rfl (by (try simp only [List.map_toArray, List.map_cons, List.map_nil]); first | done | rfl | (simp only [List.length_drop, List.length_take]; rfl)) ?_; (with_reducible refine (csets_Accent.calls kj13 a0 t257 t258 true _ A37.out).mono ?_); rintro e w69 ⟨rfl, hb⟩; refine ⟨_, rfl, ?_⟩; have n0_ := Aside0.mk (blk_below (g := gb248) (o := .cells #[.int .i64 ((rd_T38 t244 (ji8)).f0), .int .i64 ((rd_T38 t244 (ji8)).f1), .int .i64 ((rd_T38 t244 (ji8)).f2)] 38 (0, 0)) (by (with_reducible repeat (first | refine blk_drewN ?_ _ | refine blk_drew ?_ | refine blk_alloc ?_ _)); exact BK248.out) hb); have n1_ := Aside0.mk (below_step (by repeat (first | (with_reducible first | exact HB.out | apply below_alloc | apply pw_below_drewN | apply below_drew1 | refine below_set ?_ GE248.out) | exact HB.out)) hb); clear BK248; clear HB; have BK248 := n0_; have HB := n1_; clear n0_ n1_; (try clear hb); (try clear hb2); (try clear hk); (try clear hi)) | ((with_reducible refine gate_callee (f := 17) rfl ?_); refine goesL_ (some 107) rfl rfl Try.func17 (by kernel_rfl) rfl #[.int .i64 t257] rfl (by (try simp only [List.map_toArray, List.map_cons, List.map_nil]); first | done | rfl | (simp only [List.length_drop, List.length_take]; rfl)) ?_; (with_reducible refine (csets_Mark.calls kj13 t257 t261 t262 true _ A39.out).mono ?_); rintro e w70 ⟨rfl, hb⟩; refine ⟨_, rfl, ?_⟩; have n0_ := Aside0.mk (blk_below (g := gb248) (o := .cells #[.int .i64 ((rd_T38 t244 (ji8)).f0), .int .i64 ((rd_T38 t244 (ji8)).f1), .int .i64 ((rd_T38 t244 (ji8)).f2)] 38 (0, 0)) (by (with_reducible repeat (first | refine blk_drewN ?_ _ | refine blk_drew ?_ | refine blk_alloc ?_ _)); exact BK248.out) hb); have n1_ := Aside0.mk (below_step (by repeat (first | (with_reducible first | exact HB.out | apply below_alloc | apply pw_below_drewN | apply below_drew1 | refine below_set ?_ GE248.out) | exact HB.out)) hb); clear BK248; clear HB; have BK248 := n0_; have HB := n1_; clear n0_ n1_; (try clear hb); (try clear hb2); (try clear hk); (try clear hi)) | ((with_reducible refine gate_callee (f := 19) rfl ?_); refine goesL_ (some 125) rfl rfl Try.func19 (by kernel_rfl) rfl #[.int .i64 t258, .int .i64 t261] rfl (by (try simp only [List.map_toArray, List.map_cons, List.map_nil]); first | done | rfl | (simp only [List.length_drop, List.length_take]; rfl)) ?_; (with_reducible refine (ucd_Pair.calls kj13 t258 t261 t265 true _ A51.out).mono ?_); rintro e w71 ⟨rfl, hb⟩; refine ⟨_, rfl, ?_⟩; have n0_ := Aside0.mk (blk_below (g := gb248) (o := .cells #[.int .i64 ((rd_T38 t244 (ji8)).f0), .int .i64 ((rd_T38 t244 (ji8)).f1), .int .i64 ((rd_T38 t244 (ji8)).f2)] 38 (0, 0)) (by (with_reducible repeat (first | refine blk_drewN ?_ _ | refine blk_drew ?_ | refine blk_alloc ?_ _)); exact BK248.out) hb); have n1_ := Aside0.mk (below_step (by repeat (first | (with_reducible first | exact HB.out | apply below_alloc | apply pw_below_drewN | apply below_drew1 | refine below_set ?_ GE248.out) | exact HB.out)) hb); clear BK248; clear HB; have BK248 := n0_; have HB := n1_; clear n0_ n1_; (try clear hb); (try clear hb2); (try clear hk); (try clear hi)))
                 go_ret
                 exact ⟨by first | rfl | (simp [errW_none, errW_some] <;> rfl) | (simp only [← hji8]; first | rfl | (simp [errW_none, errW_some] <;> rfl)) | (simp [*, errW_none, errW_some] <;> rfl), by repeat (first | (with_reducible first | exact HB.out | apply below_alloc | apply pw_below_drewN | apply below_drew1 | refine below_set ?_ GE248.out) | exact HB.out)⟩
               ·rw [if_neg c62] at H
                have c62b0 : decide (97 ≤ t258) = false := decide_eq_false c62
                clear c62
                obtain rfl := Option.some.inj H
                go_wp2_with (first | ((with_reducible refine gate_callee (f := 18) rfl ?_); refine goesL_ (some 90) rfl rfl Try.func18 (by kernel_rfl) rfl #[.int .i64 a0] rfl (by (try simp only [List.map_toArray, List.map_cons, List.map_nil]); first | done | rfl | (simp only [List.length_drop, List.length_take]; rfl)) ?_; (with_reducible refine (csets_Accent.calls kj13 a0 t257 t258 true _ A37.out).mono ?_); rintro e w72 ⟨rfl, hb⟩; refine ⟨_, rfl, ?_⟩; have n0_ := Aside0.mk (blk_below (g := gb248) (o := .cells #[.int .i64 ((rd_T38 t244 (ji8)).f0), .int .i64 ((rd_T38 t244 (ji8)).f1), .int .i64 ((rd_T38 t244 (ji8)).f2)] 38 (0, 0)) (by (with_reducible repeat (first | refine blk_drewN ?_ _ | refine blk_drew ?_ | refine blk_alloc ?_ _)); exact BK248.out) hb); have n1_ := Aside0.mk (below_step (by repeat (first | (with_reducible first | exact HB.out | apply below_alloc | apply pw_below_drewN | apply below_drew1 | refine below_set ?_ GE248.out) | exact HB.out)) hb); clear BK248; clear HB; have BK248 := n0_; have HB := n1_; clear n0_ n1_; (try clear hb); (try clear hb2); (try clear hk); (try clear hi)) | ((with_reducible refine gate_callee (f := 17) rfl ?_); refine goesL_ (some 107) rfl rfl Try.func17 (by kernel_rfl) rfl #[.int .i64 t257] rfl (by (try simp only [List.map_toArray, List.map_cons, List.map_nil]); first | done | rfl | (simp only [List.length_drop, List.length_take]; rfl)) ?_; (with_reducible refine (csets_Mark.calls kj13 t257 t261 t262 true _ A39.out).mono ?_); rintro e w73 ⟨rfl, hb⟩; refine ⟨_, rfl, ?_⟩; have n0_ := Aside0.mk (blk_below (g := gb248) (o := .cells #[.int .i64 ((rd_T38 t244 (ji8)).f0), .int .i64 ((rd_T38 t244 (ji8)).f1), .int .i64 ((rd_T38 t244 (ji8)).f2)] 38 (0, 0)) (by (with_reducible repeat (first | refine blk_drewN ?_ _ | refine blk_drew ?_ | refine blk_alloc ?_ _)); exact BK248.out) hb); have n1_ := Aside0.mk (below_step (by repeat (first | (with_reducible first | exact HB.out | apply below_alloc | apply pw_below_drewN | apply below_drew1 | refine below_set ?_ GE248.out) | exact HB.out)) hb); clear BK248; clear HB; have BK248 := n0_; have HB := n1_; clear n0_ n1_; (try clear hb); (try clear hb2); (try clear hk); (try clear hi)) | ((with_reducible refine gate_callee (f := 19) rfl ?_); refine goesL_ (some 125) rfl rfl Try.func19 (by kernel_rfl) rfl #[.int .i64 t258, .int .i64 t261] rfl (by (try simp only [List.map_toArray, List.map_cons, List.map_nil]); first | done | rfl | (simp only [List.length_drop, List.length_take]; rfl)) ?_; (with_reducible refine (ucd_Pair.calls kj13 t258 t261 t265 true _ A51.out).mono ?_); rintro e w74 ⟨rfl, hb⟩; refine ⟨_, rfl, ?_⟩; have n0_ := Aside0.mk (blk_below (g := gb248) (o := .cells #[.int .i64 ((rd_T38 t244 (ji8)).f0), .int .i64 ((rd_T38 t244 (ji8)).f1), .int .i64 ((rd_T38 t244 (ji8)).f2)] 38 (0, 0)) (by (with_reducible repeat (first | refine blk_drewN ?_ _ | refine blk_drew ?_ | refine blk_alloc ?_ _)); exact BK248.out) hb); have n1_ := Aside0.mk (below_step (by repeat (first | (with_reducible first | exact HB.out | apply below_alloc | apply pw_below_drewN | apply below_drew1 | refine below_set ?_ GE248.out) | exact HB.out)) hb); clear BK248; clear HB; have BK248 := n0_; have HB := n1_; clear n0_ n1_; (try clear hb); (try clear hb2); (try clear hk); (try clear hi)))
                go_ret
                exact ⟨by first | rfl | (simp [errW_none, errW_some] <;> rfl) | (simp only [← hji8]; first | rfl | (simp [errW_none, errW_some] <;> rfl)) | (simp [*, errW_none, errW_some] <;> rfl), by repeat (first | (with_reducible first | exact HB.out | apply below_alloc | apply pw_below_drewN | apply below_drew1 | refine below_set ?_ GE248.out) | exact HB.out)⟩
             ·rw [if_neg c55] at H
              have c55b0 : decide (65 ≤ t258) = false := decide_eq_false c55
              clear c55
              by_cases c75 : t258 ≥ 97
              ·rw [if_pos c75] at H
               have c75b0 : decide (97 ≤ t258) = true := decide_eq_true c75
               clear c75
               by_cases c76 : t258 ≤ 122
               ·rw [if_pos c76] at H
                have c76b0 : decide (t258 ≤ 122) = true := decide_eq_true c76
                clear c76
                replace H := Option.bind_eq_some_iff.mp H
                obtain ⟨t269, A770, H⟩ := H
                replace H : (some t269) = some r := H
                have A77 := Aside0.mk A770
                clear A770
                obtain rfl := Option.some.inj H
                go_wp2_with (first | ((with_reducible refine gate_callee (f := 18) rfl ?_); refine goesL_ (some 90) rfl rfl Try.func18 (by kernel_rfl) rfl #[.int .i64 a0] rfl (by (try simp only [List.map_toArray, List.map_cons, List.map_nil]); first | done | rfl | (simp only [List.length_drop, List.length_take]; rfl)) ?_; (with_reducible refine (csets_Accent.calls kj13 a0 t257 t258 true _ A37.out).mono ?_); rintro e w78 ⟨rfl, hb⟩; refine ⟨_, rfl, ?_⟩; have n0_ := Aside0.mk (blk_below (g := gb248) (o := .cells #[.int .i64 ((rd_T38 t244 (ji8)).f0), .int .i64 ((rd_T38 t244 (ji8)).f1), .int .i64 ((rd_T38 t244 (ji8)).f2)] 38 (0, 0)) (by (with_reducible repeat (first | refine blk_drewN ?_ _ | refine blk_drew ?_ | refine blk_alloc ?_ _)); exact BK248.out) hb); have n1_ := Aside0.mk (below_step (by repeat (first | (with_reducible first | exact HB.out | apply below_alloc | apply pw_below_drewN | apply below_drew1 | refine below_set ?_ GE248.out) | exact HB.out)) hb); clear BK248; clear HB; have BK248 := n0_; have HB := n1_; clear n0_ n1_; (try clear hb); (try clear hb2); (try clear hk); (try clear hi)) | ((with_reducible refine gate_callee (f := 17) rfl ?_); refine goesL_ (some 107) rfl rfl Try.func17 (by kernel_rfl) rfl #[.int .i64 t257] rfl (by (try simp only [List.map_toArray, List.map_cons, List.map_nil]); first | done | rfl | (simp only [List.length_drop, List.length_take]; rfl)) ?_; (with_reducible refine (csets_Mark.calls kj13 t257 t261 t262 true _ A39.out).mono ?_); rintro e w79 ⟨rfl, hb⟩; refine ⟨_, rfl, ?_⟩; have n0_ := Aside0.mk (blk_below (g := gb248) (o := .cells #[.int .i64 ((rd_T38 t244 (ji8)).f0), .int .i64 ((rd_T38 t244 (ji8)).f1), .int .i64 ((rd_T38 t244 (ji8)).f2)] 38 (0, 0)) (by (with_reducible repeat (first | refine blk_drewN ?_ _ | refine blk_drew ?_ | refine blk_alloc ?_ _)); exact BK248.out) hb); have n1_ := Aside0.mk (below_step (by repeat (first | (with_reducible first | exact HB.out | apply below_alloc | apply pw_below_drewN | apply below_drew1 | refine below_set ?_ GE248.out) | exact HB.out)) hb); clear BK248; clear HB; have BK248 := n0_; have HB := n1_; clear n0_ n1_; (try clear hb); (try clear hb2); (try clear hk); (try clear hi)) | ((with_reducible refine gate_callee (f := 19) rfl ?_); refine goesL_ (some 125) rfl rfl Try.func19 (by kernel_rfl) rfl #[.int .i64 t258, .int .i64 t261] rfl (by (try simp only [List.map_toArray, List.map_cons, List.map_nil]); first | done | rfl | (simp only [List.length_drop, List.length_take]; rfl)) ?_; (with_reducible refine (ucd_Pair.calls kj13 t258 t261 t265 true _ A51.out).mono ?_); rintro e w80 ⟨rfl, hb⟩; refine ⟨_, rfl, ?_⟩; have n0_ := Aside0.mk (blk_below (g := gb248) (o := .cells #[.int .i64 ((rd_T38 t244 (ji8)).f0), .int .i64 ((rd_T38 t244 (ji8)).f1), .int .i64 ((rd_T38 t244 (ji8)).f2)] 38 (0, 0)) (by (with_reducible repeat (first | refine blk_drewN ?_ _ | refine blk_drew ?_ | refine blk_alloc ?_ _)); exact BK248.out) hb); have n1_ := Aside0.mk (below_step (by repeat (first | (with_reducible first | exact HB.out | apply below_alloc | apply pw_below_drewN | apply below_drew1 | refine below_set ?_ GE248.out) | exact HB.out)) hb); clear BK248; clear HB; have BK248 := n0_; have HB := n1_; clear n0_ n1_; (try clear hb); (try clear hb2); (try clear hk); (try clear hi)) | (go_at_call 11; (with_reducible refine (sobriquetlaw16_wakes.calls kj13  t269 _ A77.out).mono ?_); rintro e w81 ⟨rfl, hb⟩; have n0_ := Aside0.mk (blk_below (g := gb248) (o := .cells #[.int .i64 ((rd_T38 t244 (ji8)).f0), .int .i64 ((rd_T38 t244 (ji8)).f1), .int .i64 ((rd_T38 t244 (ji8)).f2)] 38 (0, 0)) (by (with_reducible repeat (first | refine blk_drewN ?_ _ | refine blk_drew ?_ | refine blk_alloc ?_ _)); exact BK248.out) hb); have n1_ := Aside0.mk (below_step (by repeat (first | (with_reducible first | exact HB.out | apply below_alloc | apply pw_below_drewN | apply below_drew1 | refine below_set ?_ GE248.out) | exact HB.out)) hb); clear BK248; clear HB; have BK248 := n0_; have HB := n1_; clear n0_ n1_; (try clear hb); (try clear hb2); (try clear hk); (try clear hi)))
                go_ret
                exact ⟨by first | rfl | (simp [errW_none, errW_some] <;> rfl) | (simp only [← hji8]; first | rfl | (simp [errW_none, errW_some] <;> rfl)) | (simp [*, errW_none, errW_some] <;> rfl), by repeat (first | (with_reducible first | exact HB.out | apply below_alloc | apply pw_below_drewN | apply below_drew1 | refine below_set ?_ GE248.out) | exact HB.out)⟩
               ·rw [if_neg c76] at H
                have c76b0 : decide (t258 ≤ 122) = false := decide_eq_false c76
                clear c76
                obtain rfl := Option.some.inj H
                go_wp2_with (first | ((with_reducible refine gate_callee (f := 18) rfl ?_); refine goesL_ (some 90) rfl rfl Try.func18 (by kernel_rfl) rfl #[.int .i64 a0] rfl (by (try simp only [List.map_toArray, List.map_cons, List.map_nil]); first | done | rfl | (simp only [List.length_drop, List.length_take]; rfl)) ?_; (with_reducible refine (csets_Accent.calls kj13 a0 t257 t258 true _ A37.out).mono ?_); rintro e w82 ⟨rfl, hb⟩; refine ⟨_, rfl, ?_⟩; have n0_ := Aside0.mk (blk_below (g := gb248) (o := .cells #[.int .i64 ((rd_T38 t244 (ji8)).f0), .int .i64 ((rd_T38 t244 (ji8)).f1), .int .i64 ((rd_T38 t244 (ji8)).f2)] 38 (0, 0)) (by (with_reducible repeat (first | refine blk_drewN ?_ _ | refine blk_drew ?_ | refine blk_alloc ?_ _)); exact BK248.out) hb); have n1_ := Aside0.mk (below_step (by repeat (first | (with_reducible first | exact HB.out | apply below_alloc | apply pw_below_drewN | apply below_drew1 | refine below_set ?_ GE248.out) | exact HB.out)) hb); clear BK248; clear HB; have BK248 := n0_; have HB := n1_; clear n0_ n1_; (try clear hb); (try clear hb2); (try clear hk); (try clear hi)) | ((with_reducible refine gate_callee (f := 17) rfl ?_); refine goesL_ (some 107) rfl rfl Try.func17 (by kernel_rfl) rfl #[.int .i64 t257] rfl (by (try simp only [List.map_toArray, List.map_cons, List.map_nil]); first | done | rfl | (simp only [List.length_drop, List.length_take]; rfl)) ?_; (with_reducible refine (csets_Mark.calls kj13 t257 t261 t262 true _ A39.out).mono ?_); rintro e w83 ⟨rfl, hb⟩; refine ⟨_, rfl, ?_⟩; have n0_ := Aside0.mk (blk_below (g := gb248) (o := .cells #[.int .i64 ((rd_T38 t244 (ji8)).f0), .int .i64 ((rd_T38 t244 (ji8)).f1), .int .i64 ((rd_T38 t244 (ji8)).f2)] 38 (0, 0)) (by (with_reducible repeat (first | refine blk_drewN ?_ _ | refine blk_drew ?_ | refine blk_alloc ?_ _)); exact BK248.out) hb); have n1_ := Aside0.mk (below_step (by repeat (first | (with_reducible first | exact HB.out | apply below_alloc | apply pw_below_drewN | apply below_drew1 | refine below_set ?_ GE248.out) | exact HB.out)) hb); clear BK248; clear HB; have BK248 := n0_; have HB := n1_; clear n0_ n1_; (try clear hb); (try clear hb2); (try clear hk); (try clear hi)) | ((with_reducible refine gate_callee (f := 19) rfl ?_); refine goesL_ (some 125) rfl rfl Try.func19 (by kernel_rfl) rfl #[.int .i64 t258, .int .i64 t261] rfl (by (try simp only [List.map_toArray, List.map_cons, List.map_nil]); first | done | rfl | (simp only [List.length_drop, List.length_take]; rfl)) ?_; (with_reducible refine (ucd_Pair.calls kj13 t258 t261 t265 true _ A51.out).mono ?_); rintro e w84 ⟨rfl, hb⟩; refine ⟨_, rfl, ?_⟩; have n0_ := Aside0.mk (blk_below (g := gb248) (o := .cells #[.int .i64 ((rd_T38 t244 (ji8)).f0), .int .i64 ((rd_T38 t244 (ji8)).f1), .int .i64 ((rd_T38 t244 (ji8)).f2)] 38 (0, 0)) (by (with_reducible repeat (first | refine blk_drewN ?_ _ | refine blk_drew ?_ | refine blk_alloc ?_ _)); exact BK248.out) hb); have n1_ := Aside0.mk (below_step (by repeat (first | (with_reducible first | exact HB.out | apply below_alloc | apply pw_below_drewN | apply below_drew1 | refine below_set ?_ GE248.out) | exact HB.out)) hb); clear BK248; clear HB; have BK248 := n0_; have HB := n1_; clear n0_ n1_; (try clear hb); (try clear hb2); (try clear hk); (try clear hi)))
                go_ret
                exact ⟨by first | rfl | (simp [errW_none, errW_some] <;> rfl) | (simp only [← hji8]; first | rfl | (simp [errW_none, errW_some] <;> rfl)) | (simp [*, errW_none, errW_some] <;> rfl), by repeat (first | (with_reducible first | exact HB.out | apply below_alloc | apply pw_below_drewN | apply below_drew1 | refine below_set ?_ GE248.out) | exact HB.out)⟩
              ·rw [if_neg c75] at H
               have c75b0 : decide (97 ≤ t258) = false := decide_eq_false c75
               clear c75
               obtain rfl := Option.some.inj H
               go_wp2_with (first | ((with_reducible refine gate_callee (f := 18) rfl ?_); refine goesL_ (some 90) rfl rfl Try.func18 (by kernel_rfl) rfl #[.int .i64 a0] rfl (by (try simp only [List.map_toArray, List.map_cons, List.map_nil]); first | done | rfl | (simp only [List.length_drop, List.length_take]; rfl)) ?_; (with_reducible refine (csets_Accent.calls kj13 a0 t257 t258 true _ A37.out).mono ?_); rintro e w85 ⟨rfl, hb⟩; refine ⟨_, rfl, ?_⟩; have n0_ := Aside0.mk (blk_below (g := gb248) (o := .cells #[.int .i64 ((rd_T38 t244 (ji8)).f0), .int .i64 ((rd_T38 t244 (ji8)).f1), .int .i64 ((rd_T38 t244 (ji8)).f2)] 38 (0, 0)) (by (with_reducible repeat (first | refine blk_drewN ?_ _ | refine blk_drew ?_ | refine blk_alloc ?_ _)); exact BK248.out) hb); have n1_ := Aside0.mk (below_step (by repeat (first | (with_reducible first | exact HB.out | apply below_alloc | apply pw_below_drewN | apply below_drew1 | refine below_set ?_ GE248.out) | exact HB.out)) hb); clear BK248; clear HB; have BK248 := n0_; have HB := n1_; clear n0_ n1_; (try clear hb); (try clear hb2); (try clear hk); (try clear hi)) | ((with_reducible refine gate_callee (f := 17) rfl ?_); refine goesL_ (some 107) rfl rfl Try.func17 (by kernel_rfl) rfl #[.int .i64 t257] rfl (by (try simp only [List.map_toArray, List.map_cons, List.map_nil]); first | done | rfl | (simp only [List.length_drop, List.length_take]; rfl)) ?_; (with_reducible refine (csets_Mark.calls kj13 t257 t261 t262 true _ A39.out).mono ?_); rintro e w86 ⟨rfl, hb⟩; refine ⟨_, rfl, ?_⟩; have n0_ := Aside0.mk (blk_below (g := gb248) (o := .cells #[.int .i64 ((rd_T38 t244 (ji8)).f0), .int .i64 ((rd_T38 t244 (ji8)).f1), .int .i64 ((rd_T38 t244 (ji8)).f2)] 38 (0, 0)) (by (with_reducible repeat (first | refine blk_drewN ?_ _ | refine blk_drew ?_ | refine blk_alloc ?_ _)); exact BK248.out) hb); have n1_ := Aside0.mk (below_step (by repeat (first | (with_reducible first | exact HB.out | apply below_alloc | apply pw_below_drewN | apply below_drew1 | refine below_set ?_ GE248.out) | exact HB.out)) hb); clear BK248; clear HB; have BK248 := n0_; have HB := n1_; clear n0_ n1_; (try clear hb); (try clear hb2); (try clear hk); (try clear hi)) | ((with_reducible refine gate_callee (f := 19) rfl ?_); refine goesL_ (some 125) rfl rfl Try.func19 (by kernel_rfl) rfl #[.int .i64 t258, .int .i64 t261] rfl (by (try simp only [List.map_toArray, List.map_cons, List.map_nil]); first | done | rfl | (simp only [List.length_drop, List.length_take]; rfl)) ?_; (with_reducible refine (ucd_Pair.calls kj13 t258 t261 t265 true _ A51.out).mono ?_); rintro e w87 ⟨rfl, hb⟩; refine ⟨_, rfl, ?_⟩; have n0_ := Aside0.mk (blk_below (g := gb248) (o := .cells #[.int .i64 ((rd_T38 t244 (ji8)).f0), .int .i64 ((rd_T38 t244 (ji8)).f1), .int .i64 ((rd_T38 t244 (ji8)).f2)] 38 (0, 0)) (by (with_reducible repeat (first | refine blk_drewN ?_ _ | refine blk_drew ?_ | refine blk_alloc ?_ _)); exact BK248.out) hb); have n1_ := Aside0.mk (below_step (by repeat (first | (with_reducible first | exact HB.out | apply below_alloc | apply pw_below_drewN | apply below_drew1 | refine below_set ?_ GE248.out) | exact HB.out)) hb); clear BK248; clear HB; have BK248 := n0_; have HB := n1_; clear n0_ n1_; (try clear hb); (try clear hb2); (try clear hk); (try clear hi)))
               go_ret
               exact ⟨by first | rfl | (simp [errW_none, errW_some] <;> rfl) | (simp only [← hji8]; first | rfl | (simp [errW_none, errW_some] <;> rfl)) | (simp [*, errW_none, errW_some] <;> rfl), by repeat (first | (with_reducible first | exact HB.out | apply below_alloc | apply pw_below_drewN | apply below_drew1 | refine below_set ?_ GE248.out) | exact HB.out)⟩
            ·rw [if_neg c54] at H
             have c54b0 : (t265 == a0) = false := beq_eq_false_iff_ne.mpr c54
             have c54b1 : (t265 != a0) = true := bne_iff_ne.mpr c54
             obtain rfl := Option.some.inj H
             go_wp2_with (first | ((with_reducible refine gate_callee (f := 18) rfl ?_); refine goesL_ (some 90) rfl rfl Try.func18 (by kernel_rfl) rfl #[.int .i64 a0] rfl (by (try simp only [List.map_toArray, List.map_cons, List.map_nil]); first | done | rfl | (simp only [List.length_drop, List.length_take]; rfl)) ?_; (with_reducible refine (csets_Accent.calls kj13 a0 t257 t258 true _ A37.out).mono ?_); rintro e w88 ⟨rfl, hb⟩; refine ⟨_, rfl, ?_⟩; have n0_ := Aside0.mk (blk_below (g := gb248) (o := .cells #[.int .i64 ((rd_T38 t244 (ji8)).f0), .int .i64 ((rd_T38 t244 (ji8)).f1), .int .i64 ((rd_T38 t244 (ji8)).f2)] 38 (0, 0)) (by (with_reducible repeat (first | refine blk_drewN ?_ _ | refine blk_drew ?_ | refine blk_alloc ?_ _)); exact BK248.out) hb); have n1_ := Aside0.mk (below_step (by repeat (first | (with_reducible first | exact HB.out | apply below_alloc | apply pw_below_drewN | apply below_drew1 | refine below_set ?_ GE248.out) | exact HB.out)) hb); clear BK248; clear HB; have BK248 := n0_; have HB := n1_; clear n0_ n1_; (try clear hb); (try clear hb2); (try clear hk); (try clear hi)) | ((with_reducible refine gate_callee (f := 17) rfl ?_); refine goesL_ (some 107) rfl rfl Try.func17 (by kernel_rfl) rfl #[.int .i64 t257] rfl (by (try simp only [List.map_toArray, List.map_cons, List.map_nil]); first | done | rfl | (simp only [List.length_drop, List.length_take]; rfl)) ?_; (with_reducible refine (csets_Mark.calls kj13 t257 t261 t262 true _ A39.out).mono ?_); rintro e w89 ⟨rfl, hb⟩; refine ⟨_, rfl, ?_⟩; have n0_ := Aside0.mk (blk_below (g := gb248) (o := .cells #[.int .i64 ((rd_T38 t244 (ji8)).f0), .int .i64 ((rd_T38 t244 (ji8)).f1), .int .i64 ((rd_T38 t244 (ji8)).f2)] 38 (0, 0)) (by (with_reducible repeat (first | refine blk_drewN ?_ _ | refine blk_drew ?_ | refine blk_alloc ?_ _)); exact BK248.out) hb); have n1_ := Aside0.mk (below_step (by repeat (first | (with_reducible first | exact HB.out | apply below_alloc | apply pw_below_drewN | apply below_drew1 | refine below_set ?_ GE248.out) | exact HB.out)) hb); clear BK248; clear HB; have BK248 := n0_; have HB := n1_; clear n0_ n1_; (try clear hb); (try clear hb2); (try clear hk); (try clear hi)) | ((with_reducible refine gate_callee (f := 19) rfl ?_); refine goesL_ (some 125) rfl rfl Try.func19 (by kernel_rfl) rfl #[.int .i64 t258, .int .i64 t261] rfl (by (try simp only [List.map_toArray, List.map_cons, List.map_nil]); first | done | rfl | (simp only [List.length_drop, List.length_take]; rfl)) ?_; (with_reducible refine (ucd_Pair.calls kj13 t258 t261 t265 true _ A51.out).mono ?_); rintro e w90 ⟨rfl, hb⟩; refine ⟨_, rfl, ?_⟩; have n0_ := Aside0.mk (blk_below (g := gb248) (o := .cells #[.int .i64 ((rd_T38 t244 (ji8)).f0), .int .i64 ((rd_T38 t244 (ji8)).f1), .int .i64 ((rd_T38 t244 (ji8)).f2)] 38 (0, 0)) (by (with_reducible repeat (first | refine blk_drewN ?_ _ | refine blk_drew ?_ | refine blk_alloc ?_ _)); exact BK248.out) hb); have n1_ := Aside0.mk (below_step (by repeat (first | (with_reducible first | exact HB.out | apply below_alloc | apply pw_below_drewN | apply below_drew1 | refine below_set ?_ GE248.out) | exact HB.out)) hb); clear BK248; clear HB; have BK248 := n0_; have HB := n1_; clear n0_ n1_; (try clear hb); (try clear hb2); (try clear hk); (try clear hi)))
             go_ret
             exact ⟨by first | rfl | (simp [errW_none, errW_some] <;> rfl) | (simp only [← hji8]; first | rfl | (simp [errW_none, errW_some] <;> rfl)) | (simp [*, errW_none, errW_some] <;> rfl), by repeat (first | (with_reducible first | exact HB.out | apply below_alloc | apply pw_below_drewN | apply below_drew1 | refine below_set ?_ GE248.out) | exact HB.out)⟩
           ·replace c53 := Bool.eq_false_iff.mpr c53
            subst c53
            have H1 : (some false) = some r := by rw [if_neg (show ¬ (false = true) by decide)] at H; exact H
            clear H
            have H := H1
            clear H1
            obtain rfl := Option.some.inj H
            go_wp2_with (first | ((with_reducible refine gate_callee (f := 18) rfl ?_); refine goesL_ (some 90) rfl rfl Try.func18 (by kernel_rfl) rfl #[.int .i64 a0] rfl (by (try simp only [List.map_toArray, List.map_cons, List.map_nil]); first | done | rfl | (simp only [List.length_drop, List.length_take]; rfl)) ?_; (with_reducible refine (csets_Accent.calls kj13 a0 t257 t258 true _ A37.out).mono ?_); rintro e w91 ⟨rfl, hb⟩; refine ⟨_, rfl, ?_⟩; have n0_ := Aside0.mk (blk_below (g := gb248) (o := .cells #[.int .i64 ((rd_T38 t244 (ji8)).f0), .int .i64 ((rd_T38 t244 (ji8)).f1), .int .i64 ((rd_T38 t244 (ji8)).f2)] 38 (0, 0)) (by (with_reducible repeat (first | refine blk_drewN ?_ _ | refine blk_drew ?_ | refine blk_alloc ?_ _)); exact BK248.out) hb); have n1_ := Aside0.mk (below_step (by repeat (first | (with_reducible first | exact HB.out | apply below_alloc | apply pw_below_drewN | apply below_drew1 | refine below_set ?_ GE248.out) | exact HB.out)) hb); clear BK248; clear HB; have BK248 := n0_; have HB := n1_; clear n0_ n1_; (try clear hb); (try clear hb2); (try clear hk); (try clear hi)) | ((with_reducible refine gate_callee (f := 17) rfl ?_); refine goesL_ (some 107) rfl rfl Try.func17 (by kernel_rfl) rfl #[.int .i64 t257] rfl (by (try simp only [List.map_toArray, List.map_cons, List.map_nil]); first | done | rfl | (simp only [List.length_drop, List.length_take]; rfl)) ?_; (with_reducible refine (csets_Mark.calls kj13 t257 t261 t262 true _ A39.out).mono ?_); rintro e w92 ⟨rfl, hb⟩; refine ⟨_, rfl, ?_⟩; have n0_ := Aside0.mk (blk_below (g := gb248) (o := .cells #[.int .i64 ((rd_T38 t244 (ji8)).f0), .int .i64 ((rd_T38 t244 (ji8)).f1), .int .i64 ((rd_T38 t244 (ji8)).f2)] 38 (0, 0)) (by (with_reducible repeat (first | refine blk_drewN ?_ _ | refine blk_drew ?_ | refine blk_alloc ?_ _)); exact BK248.out) hb); have n1_ := Aside0.mk (below_step (by repeat (first | (with_reducible first | exact HB.out | apply below_alloc | apply pw_below_drewN | apply below_drew1 | refine below_set ?_ GE248.out) | exact HB.out)) hb); clear BK248; clear HB; have BK248 := n0_; have HB := n1_; clear n0_ n1_; (try clear hb); (try clear hb2); (try clear hk); (try clear hi)) | ((with_reducible refine gate_callee (f := 19) rfl ?_); refine goesL_ (some 125) rfl rfl Try.func19 (by kernel_rfl) rfl #[.int .i64 t258, .int .i64 t261] rfl (by (try simp only [List.map_toArray, List.map_cons, List.map_nil]); first | done | rfl | (simp only [List.length_drop, List.length_take]; rfl)) ?_; (with_reducible refine (ucd_Pair.calls kj13 t258 t261 t265 false _ A51.out).mono ?_); rintro e w93 ⟨rfl, hb⟩; refine ⟨_, rfl, ?_⟩; have n0_ := Aside0.mk (blk_below (g := gb248) (o := .cells #[.int .i64 ((rd_T38 t244 (ji8)).f0), .int .i64 ((rd_T38 t244 (ji8)).f1), .int .i64 ((rd_T38 t244 (ji8)).f2)] 38 (0, 0)) (by (with_reducible repeat (first | refine blk_drewN ?_ _ | refine blk_drew ?_ | refine blk_alloc ?_ _)); exact BK248.out) hb); have n1_ := Aside0.mk (below_step (by repeat (first | (with_reducible first | exact HB.out | apply below_alloc | apply pw_below_drewN | apply below_drew1 | refine below_set ?_ GE248.out) | exact HB.out)) hb); clear BK248; clear HB; have BK248 := n0_; have HB := n1_; clear n0_ n1_; (try clear hb); (try clear hb2); (try clear hk); (try clear hi)))
            go_ret
            exact ⟨by first | rfl | (simp [errW_none, errW_some] <;> rfl) | (simp only [← hji8]; first | rfl | (simp [errW_none, errW_some] <;> rfl)) | (simp [*, errW_none, errW_some] <;> rfl), by repeat (first | (with_reducible first | exact HB.out | apply below_alloc | apply pw_below_drewN | apply below_drew1 | refine below_set ?_ GE248.out) | exact HB.out)⟩
          ·replace c52 := Bool.eq_false_iff.mpr c52
           subst c52
           have H1 : (some false) = some r := by rw [if_neg (show ¬ (false = true) by decide)] at H; exact H
           clear H
           have H := H1
           clear H1
           obtain rfl := Option.some.inj H
           go_wp2_with (first | ((with_reducible refine gate_callee (f := 18) rfl ?_); refine goesL_ (some 90) rfl rfl Try.func18 (by kernel_rfl) rfl #[.int .i64 a0] rfl (by (try simp only [List.map_toArray, List.map_cons, List.map_nil]); first | done | rfl | (simp only [List.length_drop, List.length_take]; rfl)) ?_; (with_reducible refine (csets_Accent.calls kj13 a0 t257 t258 true _ A37.out).mono ?_); rintro e w94 ⟨rfl, hb⟩; refine ⟨_, rfl, ?_⟩; have n0_ := Aside0.mk (blk_below (g := gb248) (o := .cells #[.int .i64 ((rd_T38 t244 (ji8)).f0), .int .i64 ((rd_T38 t244 (ji8)).f1), .int .i64 ((rd_T38 t244 (ji8)).f2)] 38 (0, 0)) (by (with_reducible repeat (first | refine blk_drewN ?_ _ | refine blk_drew ?_ | refine blk_alloc ?_ _)); exact BK248.out) hb); have n1_ := Aside0.mk (below_step (by repeat (first | (with_reducible first | exact HB.out | apply below_alloc | apply pw_below_drewN | apply below_drew1 | refine below_set ?_ GE248.out) | exact HB.out)) hb); clear BK248; clear HB; have BK248 := n0_; have HB := n1_; clear n0_ n1_; (try clear hb); (try clear hb2); (try clear hk); (try clear hi)) | ((with_reducible refine gate_callee (f := 17) rfl ?_); refine goesL_ (some 107) rfl rfl Try.func17 (by kernel_rfl) rfl #[.int .i64 t257] rfl (by (try simp only [List.map_toArray, List.map_cons, List.map_nil]); first | done | rfl | (simp only [List.length_drop, List.length_take]; rfl)) ?_; (with_reducible refine (csets_Mark.calls kj13 t257 t261 t262 false _ A39.out).mono ?_); rintro e w95 ⟨rfl, hb⟩; refine ⟨_, rfl, ?_⟩; have n0_ := Aside0.mk (blk_below (g := gb248) (o := .cells #[.int .i64 ((rd_T38 t244 (ji8)).f0), .int .i64 ((rd_T38 t244 (ji8)).f1), .int .i64 ((rd_T38 t244 (ji8)).f2)] 38 (0, 0)) (by (with_reducible repeat (first | refine blk_drewN ?_ _ | refine blk_drew ?_ | refine blk_alloc ?_ _)); exact BK248.out) hb); have n1_ := Aside0.mk (below_step (by repeat (first | (with_reducible first | exact HB.out | apply below_alloc | apply pw_below_drewN | apply below_drew1 | refine below_set ?_ GE248.out) | exact HB.out)) hb); clear BK248; clear HB; have BK248 := n0_; have HB := n1_; clear n0_ n1_; (try clear hb); (try clear hb2); (try clear hk); (try clear hi)) | ((with_reducible refine gate_callee (f := 19) rfl ?_); refine goesL_ (some 125) rfl rfl Try.func19 (by kernel_rfl) rfl #[.int .i64 t258, .int .i64 t261] rfl (by (try simp only [List.map_toArray, List.map_cons, List.map_nil]); first | done | rfl | (simp only [List.length_drop, List.length_take]; rfl)) ?_; (with_reducible refine (ucd_Pair.calls kj13 t258 t261 t265 t266 _ A51.out).mono ?_); rintro e w96 ⟨rfl, hb⟩; refine ⟨_, rfl, ?_⟩; have n0_ := Aside0.mk (blk_below (g := gb248) (o := .cells #[.int .i64 ((rd_T38 t244 (ji8)).f0), .int .i64 ((rd_T38 t244 (ji8)).f1), .int .i64 ((rd_T38 t244 (ji8)).f2)] 38 (0, 0)) (by (with_reducible repeat (first | refine blk_drewN ?_ _ | refine blk_drew ?_ | refine blk_alloc ?_ _)); exact BK248.out) hb); have n1_ := Aside0.mk (below_step (by repeat (first | (with_reducible first | exact HB.out | apply below_alloc | apply pw_below_drewN | apply below_drew1 | refine below_set ?_ GE248.out) | exact HB.out)) hb); clear BK248; clear HB; have BK248 := n0_; have HB := n1_; clear n0_ n1_; (try clear hb); (try clear hb2); (try clear hk); (try clear hi)))
           go_ret
           exact ⟨by first | rfl | (simp [errW_none, errW_some] <;> rfl) | (simp only [← hji8]; first | rfl | (simp [errW_none, errW_some] <;> rfl)) | (simp [*, errW_none, errW_some] <;> rfl), by repeat (first | (with_reducible first | exact HB.out | apply below_alloc | apply pw_below_drewN | apply below_drew1 | refine below_set ?_ GE248.out) | exact HB.out)⟩
        ·replace c38 := Bool.eq_false_iff.mpr c38
         subst c38
         have H1 : (if t257 = 0 then (if t258 = 0 then ((sobriquetlaw16_wakes.f kj13).bind fun t260 => (some t260)) else (some false)) else (some false)) = some r := by rw [if_neg (show ¬ (false = true) by decide)] at H; exact H
         clear H
         have H := H1
         clear H1
         by_cases c97 : t257 = 0
         ·rw [if_pos c97] at H
          have c97b0 : (t257 == 0) = true := beq_iff_eq.mpr c97
          have c97b1 : (t257 != 0) = false := bne_eq_false_iff_eq.mpr c97
          clear c97
          by_cases c98 : t258 = 0
          ·rw [if_pos c98] at H
           have c98b0 : (t258 == 0) = true := beq_iff_eq.mpr c98
           have c98b1 : (t258 != 0) = false := bne_eq_false_iff_eq.mpr c98
           clear c98
           replace H := Option.bind_eq_some_iff.mp H
           obtain ⟨t260, A990, H⟩ := H
           replace H : (some t260) = some r := H
           have A99 := Aside0.mk A990
           clear A990
           obtain rfl := Option.some.inj H
           go_wp2_with (first | ((with_reducible refine gate_callee (f := 18) rfl ?_); refine goesL_ (some 90) rfl rfl Try.func18 (by kernel_rfl) rfl #[.int .i64 a0] rfl (by (try simp only [List.map_toArray, List.map_cons, List.map_nil]); first | done | rfl | (simp only [List.length_drop, List.length_take]; rfl)) ?_; (with_reducible refine (csets_Accent.calls kj13 a0 t257 t258 false _ A37.out).mono ?_); rintro e w100 ⟨rfl, hb⟩; refine ⟨_, rfl, ?_⟩; have n0_ := Aside0.mk (blk_below (g := gb248) (o := .cells #[.int .i64 ((rd_T38 t244 (ji8)).f0), .int .i64 ((rd_T38 t244 (ji8)).f1), .int .i64 ((rd_T38 t244 (ji8)).f2)] 38 (0, 0)) (by (with_reducible repeat (first | refine blk_drewN ?_ _ | refine blk_drew ?_ | refine blk_alloc ?_ _)); exact BK248.out) hb); have n1_ := Aside0.mk (below_step (by repeat (first | (with_reducible first | exact HB.out | apply below_alloc | apply pw_below_drewN | apply below_drew1 | refine below_set ?_ GE248.out) | exact HB.out)) hb); clear BK248; clear HB; have BK248 := n0_; have HB := n1_; clear n0_ n1_; (try clear hb); (try clear hb2); (try clear hk); (try clear hi)) | (go_at_call 11; (with_reducible refine (sobriquetlaw16_wakes.calls kj13  t260 _ A99.out).mono ?_); rintro e w101 ⟨rfl, hb⟩; have n0_ := Aside0.mk (blk_below (g := gb248) (o := .cells #[.int .i64 ((rd_T38 t244 (ji8)).f0), .int .i64 ((rd_T38 t244 (ji8)).f1), .int .i64 ((rd_T38 t244 (ji8)).f2)] 38 (0, 0)) (by (with_reducible repeat (first | refine blk_drewN ?_ _ | refine blk_drew ?_ | refine blk_alloc ?_ _)); exact BK248.out) hb); have n1_ := Aside0.mk (below_step (by repeat (first | (with_reducible first | exact HB.out | apply below_alloc | apply pw_below_drewN | apply below_drew1 | refine below_set ?_ GE248.out) | exact HB.out)) hb); clear BK248; clear HB; have BK248 := n0_; have HB := n1_; clear n0_ n1_; (try clear hb); (try clear hb2); (try clear hk); (try clear hi)))
           go_ret
           exact ⟨by first | rfl | (simp [errW_none, errW_some] <;> rfl) | (simp only [← hji8]; first | rfl | (simp [errW_none, errW_some] <;> rfl)) | (simp [*, errW_none, errW_some] <;> rfl), by repeat (first | (with_reducible first | exact HB.out | apply below_alloc | apply pw_below_drewN | apply below_drew1 | refine below_set ?_ GE248.out) | exact HB.out)⟩
          ·rw [if_neg c98] at H
           have c98b0 : (t258 == 0) = false := beq_eq_false_iff_ne.mpr c98
           have c98b1 : (t258 != 0) = true := bne_iff_ne.mpr c98
           obtain rfl := Option.some.inj H
           go_wp2_with (first | ((with_reducible refine gate_callee (f := 18) rfl ?_); refine goesL_ (some 90) rfl rfl Try.func18 (by kernel_rfl) rfl #[.int .i64 a0] rfl (by (try simp only [List.map_toArray, List.map_cons, List.map_nil]); first | done | rfl | (simp only [List.length_drop, List.length_take]; rfl)) ?_; (with_reducible refine (csets_Accent.calls kj13 a0 t257 t258 false _ A37.out).mono ?_); rintro e w102 ⟨rfl, hb⟩; refine ⟨_, rfl, ?_⟩; have n0_ := Aside0.mk (blk_below (g := gb248) (o := .cells #[.int .i64 ((rd_T38 t244 (ji8)).f0), .int .i64 ((rd_T38 t244 (ji8)).f1), .int .i64 ((rd_T38 t244 (ji8)).f2)] 38 (0, 0)) (by (with_reducible repeat (first | refine blk_drewN ?_ _ | refine blk_drew ?_ | refine blk_alloc ?_ _)); exact BK248.out) hb); have n1_ := Aside0.mk (below_step (by repeat (first | (with_reducible first | exact HB.out | apply below_alloc | apply pw_below_drewN | apply below_drew1 | refine below_set ?_ GE248.out) | exact HB.out)) hb); clear BK248; clear HB; have BK248 := n0_; have HB := n1_; clear n0_ n1_; (try clear hb); (try clear hb2); (try clear hk); (try clear hi)))
           go_ret
           exact ⟨by first | rfl | (simp [errW_none, errW_some] <;> rfl) | (simp only [← hji8]; first | rfl | (simp [errW_none, errW_some] <;> rfl)) | (simp [*, errW_none, errW_some] <;> rfl), by repeat (first | (with_reducible first | exact HB.out | apply below_alloc | apply pw_below_drewN | apply below_drew1 | refine below_set ?_ GE248.out) | exact HB.out)⟩
         ·rw [if_neg c97] at H
          have c97b0 : (t257 == 0) = false := beq_eq_false_iff_ne.mpr c97
          have c97b1 : (t257 != 0) = true := bne_iff_ne.mpr c97
          obtain rfl := Option.some.inj H
          go_wp2_with (first | ((with_reducible refine gate_callee (f := 18) rfl ?_); refine goesL_ (some 90) rfl rfl Try.func18 (by kernel_rfl) rfl #[.int .i64 a0] rfl (by (try simp only [List.map_toArray, List.map_cons, List.map_nil]); first | done | rfl | (simp only [List.length_drop, List.length_take]; rfl)) ?_; (with_reducible refine (csets_Accent.calls kj13 a0 t257 t258 false _ A37.out).mono ?_); rintro e w103 ⟨rfl, hb⟩; refine ⟨_, rfl, ?_⟩; have n0_ := Aside0.mk (blk_below (g := gb248) (o := .cells #[.int .i64 ((rd_T38 t244 (ji8)).f0), .int .i64 ((rd_T38 t244 (ji8)).f1), .int .i64 ((rd_T38 t244 (ji8)).f2)] 38 (0, 0)) (by (with_reducible repeat (first | refine blk_drewN ?_ _ | refine blk_drew ?_ | refine blk_alloc ?_ _)); exact BK248.out) hb); have n1_ := Aside0.mk (below_step (by repeat (first | (with_reducible first | exact HB.out | apply below_alloc | apply pw_below_drewN | apply below_drew1 | refine below_set ?_ GE248.out) | exact HB.out)) hb); clear BK248; clear HB; have BK248 := n0_; have HB := n1_; clear n0_ n1_; (try clear hb); (try clear hb2); (try clear hk); (try clear hi)))
          go_ret
          exact ⟨by first | rfl | (simp [errW_none, errW_some] <;> rfl) | (simp only [← hji8]; first | rfl | (simp [errW_none, errW_some] <;> rfl)) | (simp [*, errW_none, errW_some] <;> rfl), by repeat (first | (with_reducible first | exact HB.out | apply below_alloc | apply pw_below_drewN | apply below_drew1 | refine below_set ?_ GE248.out) | exact HB.out)⟩
    ·rw [if_neg c10] at H
     exact absurd H (by simp)
   ·rw [if_neg c9] at H
    exact absurd H (by simp)

/-- THE ONE PURE STATEMENT of sobriquetlaw16_CsetsAccents: yours. -/
def sobriquetlaw16_CsetsAccents.Pure : Prop := ∀ (a0 : Int) (a1 : Int), (Lit.int .i64 a0).wf = true → (Lit.int .i64 a1).wf = true → ∃ k, sobriquetlaw16_CsetsAccents.f k a0 a1 = some true
theorem sobriquetlaw16_CsetsAccents.walk (P : sobriquetlaw16_CsetsAccents.Pure) (a0 : Int) (a1 : Int) (w : World) (w0 : (Lit.int .i64 a0).wf = true) (w1 : (Lit.int .i64 a1).wf = true) :
  Calls Try.prog 5 #[.int .i64 a0, .int .i64 a1] w fun e w' => e = .returned (.bool true) ∧ Below w.heap.size w w' := by
 obtain ⟨k, h⟩ := P a0 a1 w0 w1
 refine (sobriquetlaw16_CsetsAccents.calls k a0 a1 true w h).mono ?_
 rintro e w' ⟨rfl, hd⟩
 exact ⟨rfl, hd⟩

end Go.Proofs.Ytpifdcdbkpidpaa.M
