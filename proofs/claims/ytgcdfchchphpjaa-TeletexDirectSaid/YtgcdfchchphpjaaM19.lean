-- Written by wip/prn.py of this session out of the translation (function by function); Lean checks it.
-- squeezed
import Derived.Test.YtgcdfchchphpjaaM0
import Derived.Test.YtgcdfchchphpjaaM1
import Derived.Test.YtgcdfchchphpjaaM11
import Derived.Test.YtgcdfchchphpjaaM15
import Derived.Test.YtgcdfchchphpjaaHCodes
import Derived.Test.YtgcdfchchphpjaaHWakes18
namespace Go.Proofs.Ytgcdfchchphpjaa.M
open Go.RowKit Go.Proofs.YtgcdfchchphpjaaW.PrintWords Go.Proofs.YtgcdfchchphpjaaW.PrintLast Go.Proofs.YtgcdfchchphpjaaW.PrintMore
attribute [local go_sem] max2_int min2_int max_two min_two max_three min_three max_four min_four   -- for this text's walks alone
set_option linter.unusedVariables false
set_option linter.unusedSimpArgs false

abbrev qm_M19_0 : Array Bool := #[false, false, false, false, false, false, false, false, false, false, false, false, false, false, false, false]
abbrev qm_M19_1 : Array Bool := #[true, false, false, false, false, false, false, false, false, false, false, false, false, false, false, false]
abbrev qm_M19_2 : Array Bool := #[true, false, true, false, false, false, false, false, false, false, false, false, false, false, false, false]
abbrev qm_M19_3 : Array Bool := #[true, false, true, true, false, false, false, false, false, false, false, false, false, false, false, false]
abbrev qm_M19_4 : Array Bool := #[true, false, true, true, true, false, false, false, false, false, false, false, false, false, false, false]
abbrev qm_M19_5 : Array Bool := #[true, false, true, true, true, true, false, false, false, false, false, false, false, false, false, false]
abbrev qm_M19_6 : Array Bool := #[true, true, true, true, true, true, true, false, false, false, false, false, false, false, false, false]
abbrev qm_M19_7 : Array Bool := #[true, true, true, true, true, true, false, false, false, false, false, false, false, false, false, false]
abbrev qm_M19_8 : Array Bool := #[true, false, true, true, true, true, true, false, false, false, false, false, false, false, false, false]
abbrev qm_M19_9 : Array Bool := #[true, true, true, true, true, true, true, true, false, false, false, false, false, false, false, false]
abbrev qm_M19_10 : Array Bool := #[true, true, true, true, true, true, true, true, true, false, false, false, false, false, false, false]
abbrev qm_M19_11 : Array Bool := #[true, true, true, true, true, true, true, true, true, true, false, false, false, false, false, false]
abbrev qm_M19_12 : Array Bool := #[true, true, true, true, true, true, true, true, true, true, true, false, false, false, false, false]
abbrev qm_M19_13 : Array Bool := #[true, true, true, true, true, true, true, true, true, true, true, true, false, false, false, false]
abbrev qm_M19_14 : Array Bool := #[true, true, true, true, true, true, true, true, true, true, true, true, true, false, false, false]
abbrev qm_M19_15 : Array Bool := #[true, true, true, true, true, true, true, true, true, true, true, true, true, true, false, false]
abbrev qm_M19_16 : Array Bool := #[true, true, true, true, true, true, true, true, true, true, true, true, true, true, true, false]
abbrev qm_M19_17 : Array Bool := #[true, true, true, true, true, true, true, true, true, true, true, true, true, true, true, true]
/-! ### sobriquetlaw18_TeletexDirect: function 9 -/
mutual
def sobriquetlaw18_TeletexDirect.l0 : Nat → Int → Int → List (S38) → List (S38) → Int → Option (Bool)
 | 0, _, _, _, _, _ => none
 | k + 1, x0, x1, x5, x6, x7 => if x7 < (x6.length : Int) then (if 0 ≤ x7 then (if ((rd_T38 x6 x7).f0) = 103 then ((some (([(⟨(rd_T38 x6 x7).f0, (rd_T38 x6 x7).f1, (rd_T38 x6 x7).f2⟩ : S38)] : List (S38)) : List (S38))).bind fun y716 => (if x5.length + y716.length < 5864062014805 then (sobriquetlaw18_TeletexDirect.l0 k x0 x1 (x5 ++ y716) x6 (wrap64 (x7 + 1))) else (none))) else (sobriquetlaw18_TeletexDirect.l0 k x0 x1 x5 x6 (wrap64 (x7 + 1)))) else (none)) else ((api_Sets.f).bind fun t722 => (if (x5.length : Int) = 0 then (sobriquetlaw18_TeletexDirect.j1 k x0 x1 x5 t722 true) else (sobriquetlaw18_TeletexDirect.j1 k x0 x1 x5 t722 ((t722.length : Int) == 0))))
def sobriquetlaw18_TeletexDirect.j1 : Nat → Int → Int → List (S38) → List Int → Bool → Option (Bool)
 | 0, _, _, _, _, _ => none
 | k + 1, x0, x1, x5, x8, x42 => if x42 = true then (some false) else (if (IntKind.u64.wrap ((x5.length : Int))) = 0 then (none) else (if 0 ≤ (wrap64 (Int.tmod (IntKind.u64.wrap (x0)) (IntKind.u64.wrap ((x5.length : Int))))) then (if (wrap64 (Int.tmod (IntKind.u64.wrap (x0)) (IntKind.u64.wrap ((x5.length : Int))))) < (x5.length : Int) then (if (IntKind.u64.wrap ((x8.length : Int))) = 0 then (none) else (if 0 ≤ (wrap64 (Int.tmod (IntKind.u64.wrap (x1)) (IntKind.u64.wrap ((x8.length : Int))))) then (if (wrap64 (Int.tmod (IntKind.u64.wrap (x1)) (IntKind.u64.wrap ((x8.length : Int))))) < (x8.length : Int) then ((sobriquetref13_Escape.f 0 (rd x8 (wrap64 (Int.tmod (IntKind.u64.wrap (x1)) (IntKind.u64.wrap ((x8.length : Int))))))).bind fun t728 => ((some (([(wrap64 (((rd_T38 x5 (wrap64 (Int.tmod (IntKind.u64.wrap (x0)) (IntKind.u64.wrap ((x5.length : Int)))))).f1) + 128)) % 256] : List Int) : List Int)).bind fun y731 => (if t728.length + y731.length < 140737488355328 then ((teletex_Read.f k (t728 ++ y731)).bind fun bt737 => (if bt737.2.2 = 0 then ((sobriquetkeep_Ints.f k bt737.1 (([(rd_T38 x5 (wrap64 (Int.tmod (IntKind.u64.wrap (x0)) (IntKind.u64.wrap ((x5.length : Int)))))).f2] : List Int))).bind fun t745 => (if t745 = true then ((sobriquetlaw18_wakes.f).bind fun t746 => (some t746)) else (some false))) else (some false))) else (none)))) else (none)) else (none))) else (none)) else (none)))
end
def sobriquetlaw18_TeletexDirect.f (k : Nat) (a0 : Int) (a1 : Int) : Option (Bool) := (api_Codes.f).bind fun t711 => (sobriquetlaw18_TeletexDirect.l0 k a0 a1 ([] : List (S38)) t711 0)
theorem sobriquetlaw18_TeletexDirect.mono_l : ∀ k, (∀ y0 y1 y2 y3 y4, LeO (sobriquetlaw18_TeletexDirect.l0 k y0 y1 y2 y3 y4) (sobriquetlaw18_TeletexDirect.l0 (k + 1) y0 y1 y2 y3 y4)) ∧ (∀ y0 y1 y2 y3 y4, LeO (sobriquetlaw18_TeletexDirect.j1 k y0 y1 y2 y3 y4) (sobriquetlaw18_TeletexDirect.j1 (k + 1) y0 y1 y2 y3 y4))
 | 0 => ⟨fun _ _ _ _ _ r h => by simp [sobriquetlaw18_TeletexDirect.l0] at h, fun _ _ _ _ _ r h => by simp [sobriquetlaw18_TeletexDirect.j1] at h⟩
 | k + 1 => by
  obtain ⟨ih0, ih1⟩ := sobriquetlaw18_TeletexDirect.mono_l k
  refine ⟨?_, ?_⟩
  ·intro y0 y1 y2 y3 y4
   unfold sobriquetlaw18_TeletexDirect.l0
   repeat' first
   | (with_reducible exact ih0 _ _ _ _ _)
   | (with_reducible exact ih1 _ _ _ _ _)
   | (with_reducible exact sobriquetkeep_Ints.mono _ _ _)
   | (with_reducible exact teletex_Read.mono _ _)
   | (with_reducible exact LeO.refl _)
   | (with_reducible exact LeO.none _)
   | (with_reducible refine LeO.ite ?_ ?_)
   | (with_reducible refine LeO.bind ?_ (fun _ => ?_))
   | exact ih0 _ _ _ _ _
   | exact ih1 _ _ _ _ _
   | exact sobriquetkeep_Ints.mono _ _ _
   | exact teletex_Read.mono _ _
   | exact LeO.none _
   | refine LeO.ite ?_ ?_
   | refine LeO.bind ?_ (fun _ => ?_)
  ·intro y0 y1 y2 y3 y4
   unfold sobriquetlaw18_TeletexDirect.j1
   repeat' first
   | (with_reducible exact ih0 _ _ _ _ _)
   | (with_reducible exact ih1 _ _ _ _ _)
   | (with_reducible exact sobriquetkeep_Ints.mono _ _ _)
   | (with_reducible exact teletex_Read.mono _ _)
   | (with_reducible exact LeO.refl _)
   | (with_reducible exact LeO.none _)
   | (with_reducible refine LeO.ite ?_ ?_)
   | (with_reducible refine LeO.bind ?_ (fun _ => ?_))
   | exact ih0 _ _ _ _ _
   | exact ih1 _ _ _ _ _
   | exact sobriquetkeep_Ints.mono _ _ _
   | exact teletex_Read.mono _ _
   | exact LeO.none _
   | refine LeO.ite ?_ ?_
   | refine LeO.bind ?_ (fun _ => ?_)
theorem sobriquetlaw18_TeletexDirect.mono : ∀ a0 a1 k, LeO (sobriquetlaw18_TeletexDirect.f k a0 a1) (sobriquetlaw18_TeletexDirect.f (k + 1) a0 a1) := by
 intro a0 a1 k
 obtain ⟨ih0, ih1⟩ := sobriquetlaw18_TeletexDirect.mono_l k
 unfold sobriquetlaw18_TeletexDirect.f
 repeat' first
   | (with_reducible exact ih0 _ _ _ _ _)
   | (with_reducible exact ih1 _ _ _ _ _)
   | (with_reducible exact sobriquetkeep_Ints.mono _ _ _)
   | (with_reducible exact teletex_Read.mono _ _)
   | (with_reducible exact LeO.refl _)
   | (with_reducible exact LeO.none _)
   | (with_reducible refine LeO.ite ?_ ?_)
   | (with_reducible refine LeO.bind ?_ (fun _ => ?_))
   | exact ih0 _ _ _ _ _
   | exact ih1 _ _ _ _ _
   | exact sobriquetkeep_Ints.mono _ _ _
   | exact teletex_Read.mono _ _
   | exact LeO.none _
   | refine LeO.ite ?_ ?_
   | refine LeO.bind ?_ (fun _ => ?_)
def sobriquetlaw18_TeletexDirect.T13 : Bool × List (List Nat × List Nat) := (true, [([], []), ([0], [0]), ([], []), ([2], [2]), ([3], [3]), ([4], [4]), ([5], [5]), ([1, 6, 1], [1, 6]), ([7, 7], [7]), ([8], [8]), ([9], [9]), ([9], [9]), ([9], [9]), ([10, 8, 0, 1, 2, 3, 4, 5, 6, 7, 8, 9, 10], [10]), ([11, 13, 0, 1, 2, 3, 4, 5, 6, 7, 8, 9, 10, 11, 13], [11]), ([12, 14, 0, 1, 2, 3, 4, 5, 6, 7, 8, 9, 10, 11, 12, 13, 14], [12])])
def sobriquetlaw18_TeletexDirect.B13 : List Nat := [0, 1, 0, 4, 12, 28, 60, 127, 255, 511, 1023, 1023, 1023, 2047, 12287, 32767]
theorem sobriquetlaw18_TeletexDirect.tab13 : rtab .any (opsOf Try.f9 13) = sobriquetlaw18_TeletexDirect.T13 := by kernel_rfl
theorem sobriquetlaw18_TeletexDirect.bits13 : waitsOk sobriquetlaw18_TeletexDirect.T13.2 sobriquetlaw18_TeletexDirect.B13 = true := by kernel_rfl
set_option maxHeartbeats 8000000 in
set_option maxRecDepth 100000 in
theorem sobriquetlaw18_TeletexDirect.calls (k : Nat) (a0 : Int) (a1 : Int) (r : Bool) (w : World) (h : sobriquetlaw18_TeletexDirect.f k a0 a1 = some r) :
  Calls Try.prog 9 #[.int .i64 a0, .int .i64 a1] w fun e w' => e = .returned (.bool r) ∧ Below w.heap.size w w' := by
 have hu38 := Try.underlying38
 have HB := Aside0.mk (Below.refl w.heap.size w)
 have H : ((api_Codes.f).bind fun t711 => (sobriquetlaw18_TeletexDirect.l0 k a0 a1 ([] : List (S38)) t711 0)) = some r := h
 clear h
 replace H := Option.bind_eq_some_iff.mp H
 obtain ⟨t711, A30, H⟩ := H
 replace H : (sobriquetlaw18_TeletexDirect.l0 k a0 a1 ([] : List (S38)) t711 0) = some r := H
 have A3 := Aside0.mk A30
 clear A30
 have H' := Aside0.mk H
 clear H
 go_enter Try.func9, Try.ntmps9
 go_wp2_with (first | ((with_reducible refine gate_callee (f := 16) rfl ?_); refine goesL_ (some 14) rfl rfl Try.func16 (by kernel_rfl) rfl #[] rfl (by (try simp only [List.map_toArray, List.map_cons, List.map_nil]); first | done | rfl | (simp only [List.length_drop, List.length_take]; rfl)) ?_; (with_reducible refine (api_Codes.calls  t711 _ A3.out).mono ?_); rintro e w4 ⟨v712, rfl, ho0, hb⟩; refine ⟨_, rfl, ?_⟩; have n0_ := Aside0.mk (Kd.R_lower ho0 (below_size (by repeat (first | (with_reducible first | exact HB.out | apply below_alloc | apply pw_below_drewN | apply below_drew1) | exact HB.out)))); have n1_ := Aside0.mk (below_step (by repeat (first | (with_reducible first | exact HB.out | apply below_alloc | apply pw_below_drewN | apply below_drew1) | exact HB.out)) hb); clear HB; have HO713 := n0_; have HB := n1_; clear n0_ n1_; (try clear hb); (try clear hb2); (try clear hk); (try clear hi); (try clear ho0)))
 go_loopg [5, 7] k (fun kq v5 v7 w' => ∃ (x5_1 : List (S38)) (x7_1 : Int), v7 = .int .i64 x7_1 ∧ Aside0 (sobriquetlaw18_TeletexDirect.l0 kq a0 a1 x5_1 t711 x7_1 = some r) ∧ Aside0 (kq ≤ k) ∧ Aside0 (Kd.R k38 38 w' w.heap.size (fun k_ => some k_ ≠ (v712 : Value).ownBlock) v5 x5_1) ∧ Aside0 (Kd.R k38 38 w' w.heap.size (fun k_ => some k_ ≠ (v5 : Value).ownBlock) v712 t711) ∧ Aside0 (Below w.heap.size w w'))
 case atStart => exact ⟨(([] : List (S38))), (0), (by first | rfl | (simp; done) | (simp [*]; done)), H', ⟨Nat.le_refl _⟩, ⟨by first | exact Kd.R_nil _ _ _ _ _ | exact Kd.N_nil _ _ _ _ _ | exact Kd.V_nil _ _ _ _ _ | exact Kd.Q_nil _ _ _ _ _ | exact Kd.S_nil _ _ _ _ _⟩, ⟨by (with_reducible repeat (first | apply Kd.R_alloc | apply Kd.R_drewN | apply Kd.R_drew)); exact Kd.R_mono HO713.out (fun _ hk => (by simp [Value.ownBlock]))⟩, ⟨by repeat (first | (with_reducible first | exact HB.out | apply below_alloc | apply pw_below_drewN | apply below_drew1) | exact HB.out)⟩⟩
 case round =>
  clear H'
  try clear c1
  try clear p2
  obtain ⟨x5_1, x7_1, rfl, HA, HK1, HO_5, HO_6, HB⟩ := hrel
  cases gk with
  | zero => exact absurd HA.out (by simp [sobriquetlaw18_TeletexDirect.l0])
  | succ k1 =>
   have H := HA.out
   clear HA
   simp only [sobriquetlaw18_TeletexDirect.l0] at H
   by_cases c5 : x7_1 < (t711.length : Int)
   ·rw [if_pos c5] at H
    have c5b0 : decide (x7_1 < (t711.length : Int)) = true := decide_eq_true c5
    clear c5
    by_cases c6 : 0 ≤ x7_1
    rotate_left
    ·rw [if_neg c6] at H
     exact absurd H (by simp)
    rw [if_pos c6] at H
    have c6b0 : decide (0 ≤ x7_1) = true := decide_eq_true c6
    clear c6
    by_cases c7 : ((rd_T38 t711 x7_1).f0) = 103
    rotate_left
    ·rw [if_neg c7] at H
     have c7b0 : (((rd_T38 t711 x7_1).f0) == 103) = false := beq_eq_false_iff_ne.mpr c7
     have c7b1 : (((rd_T38 t711 x7_1).f0) != 103) = true := bne_iff_ne.mpr c7
     have H' := Aside0.mk H
     clear H
     obtain ⟨Ao14, co14, eo14⟩ := Kd.R_slice HO_6.out
     subst eo14
     have p714 : 0 ≤ (x7_1 : Int) := of_decide_eq_true (by first | (with_reducible assumption) | assumption)
     have q714 : x7_1 < (t711.length : Int) := of_decide_eq_true (by first | (with_reducible assumption) | assumption)
     obtain ⟨ad714, e714, hx714_0, hx714_1, hx714_2⟩ := at_T38 (Kd.R_reads' HO_6.out).2.2 x7_1 p714 q714
     cases e714
     replace p714 := eq_true p714
     replace q714 := eq_true q714
     go_wp2
     go_roundg k1
     case measure => have := HK1.out; omega
     case rel => exact ⟨(x5_1), (wrap64 (x7_1 + 1)), (by first | rfl | (simp; done) | (simp [*]; done)), H', ⟨by have := HK1.out; omega⟩, ⟨by (with_reducible repeat (first | apply Kd.R_alloc | apply Kd.R_drewN | apply Kd.R_drew)); exact HO_5.out⟩, ⟨by (with_reducible repeat (first | apply Kd.R_alloc | apply Kd.R_drewN | apply Kd.R_drew)); exact HO_6.out⟩, ⟨by repeat (first | (with_reducible first | exact HB.out | apply below_alloc | apply pw_below_drewN | apply below_drew1) | exact HB.out)⟩⟩
    rw [if_pos c7] at H
    have c7b0 : (((rd_T38 t711 x7_1).f0) == 103) = true := beq_iff_eq.mpr c7
    have c7b1 : (((rd_T38 t711 x7_1).f0) != 103) = false := bne_eq_false_iff_eq.mpr c7
    clear c7
    obtain ⟨y716, hy716⟩ : ∃ y_ : List (S38), y_ = (([(⟨(rd_T38 t711 x7_1).f0, (rd_T38 t711 x7_1).f1, (rd_T38 t711 x7_1).f2⟩ : S38)] : List (S38))) := ⟨_, rfl⟩
    replace H : (if x5_1.length + y716.length < 5864062014805 then (sobriquetlaw18_TeletexDirect.l0 k1 a0 a1 (x5_1 ++ y716) t711 (wrap64 (x7_1 + 1))) else (none)) = some r := by first | (rw [hy716]; with_reducible exact H) | (have H2_ := (Option.bind_some _ _).symm.trans H; rw [hy716]; with_reducible exact H2_) | (have H2_ := (Option.bind_some _ _).symm.trans H; with_reducible exact H2_) | with_reducible exact H | (rw [hy716]; exact H) | exact H
    have Ny716 := Aside0.mk hy716
    clear hy716
    by_cases c8 : x5_1.length + y716.length < 5864062014805
    rotate_left
    ·rw [if_neg c8] at H
     exact absurd H (by simp)
    rw [if_pos c8] at H
    have LMc8 := Aside0.mk c8
    clear c8
    obtain ⟨y719, hy719⟩ : ∃ y_ : List (S38), y_ = (x5_1 ++ y716) := ⟨_, rfl⟩
    replace H : (sobriquetlaw18_TeletexDirect.l0 k1 a0 a1 y719 t711 (wrap64 (x7_1 + 1))) = some r := by first | (rw [hy719]; with_reducible exact H) | (have H2_ := (Option.bind_some _ _).symm.trans H; rw [hy719]; with_reducible exact H2_) | (have H2_ := (Option.bind_some _ _).symm.trans H; with_reducible exact H2_) | with_reducible exact H | (rw [hy719]; exact H) | exact H
    have Ny719 := Aside0.mk hy719
    clear hy719
    have H' := Aside0.mk H
    clear H
    obtain ⟨Ao9, co9, eo9⟩ := Kd.R_slice HO_6.out
    subst eo9
    have p714 : 0 ≤ (x7_1 : Int) := of_decide_eq_true (by first | (with_reducible assumption) | assumption)
    have q714 : x7_1 < (t711.length : Int) := of_decide_eq_true (by first | (with_reducible assumption) | assumption)
    obtain ⟨ad714, e714, hx714_0, hx714_1, hx714_2⟩ := at_T38 (Kd.R_reads' HO_6.out).2.2 x7_1 p714 q714
    cases e714
    replace p714 := eq_true p714
    replace q714 := eq_true q714
    have p715 : 0 ≤ (x7_1 : Int) := of_decide_eq_true (by first | (with_reducible assumption) | assumption)
    have q715 : x7_1 < (t711.length : Int) := of_decide_eq_true (by first | (with_reducible assumption) | assumption)
    obtain ⟨ad715, e715, hx715_0, hx715_1, hx715_2⟩ := at_T38 (Kd.R_reads' HO_6.out).2.2 x7_1 p715 q715
    obtain rfl : ad714 = ad715 := (by injection e715)
    replace p715 := eq_true p715
    replace q715 := eq_true q715
    go_wp2_with (first | ((with_reducible refine gate_dst (N := 32) rfl ?_); (try (refine gate_guard (by rfl) ?_; dsimp only)); refine Kd.R_lit k38 _ 38 ?hg (N := 32) ?hd (xs := ([(⟨(rd_T38 t711 x7_1).f0, (rd_T38 t711 x7_1).f1, (rd_T38 t711 x7_1).f2⟩ : S38)] : List (S38))) (inner := [.int .i64 ((rd_T38 t711 x7_1).f0), .int .i64 ((rd_T38 t711 x7_1).f1), .int .i64 ((rd_T38 t711 x7_1).f2)]) (ok := fun _ => True) (okp := fun _ => True) ?hr ?hp (fun _ hk => hk) trivial (Below.refl _ _) (Nat.le_refl _) (by simp) ?_; (case hd => rfl); (case hg => rfl); (case hr => first | (go_simp; done) | (go_simp; rfl)); (case hp => exact (Reps.c3 (show Kd.M k38 _ _ _ (⟨(rd_T38 t711 x7_1).f0, (rd_T38 t711 x7_1).f1, (rd_T38 t711 x7_1).f2⟩ : S38) [.int .i64 ((rd_T38 t711 x7_1).f0), .int .i64 ((rd_T38 t711 x7_1).f1), .int .i64 ((rd_T38 t711 x7_1).f2)] from (k38_mkM _ _ _ (⟨(rd_T38 t711 x7_1).f0, (rd_T38 t711 x7_1).f1, (rd_T38 t711 x7_1).f2⟩ : S38) )) (Reps.none _ _))); intro v717 w10 ho11 hb hg_ hnew_; clear hg_ hnew_; (first | rw [← Ny716.out] at ho11 | (simp only [Int.reduceToNat] at ho11; rw [← Ny716.out] at ho11)); have n0_ := Aside0.mk (Kd.R_elder' (by (with_reducible repeat (first | apply Kd.R_alloc | apply Kd.R_drewN | apply Kd.R_drew)); exact HO_5.out) (Kd.R_base ho11) hb); have n1_ := Aside0.mk (Kd.R_elder' (by (with_reducible repeat (first | apply Kd.R_alloc | apply Kd.R_drewN | apply Kd.R_drew)); exact HO_6.out) (Kd.R_base ho11) hb); have n2_ := Aside0.mk (Kd.R_lower (Kd.R_new' (Kd.R_new' ho11 (Kd.R_lt (by (with_reducible repeat (first | apply Kd.R_alloc | apply Kd.R_drewN | apply Kd.R_drew)); exact HO_5.out))) (Kd.R_lt (by (with_reducible repeat (first | apply Kd.R_alloc | apply Kd.R_drewN | apply Kd.R_drew)); exact HO_6.out))) (below_size (by repeat (first | (with_reducible first | exact HB.out | apply below_alloc | apply pw_below_drewN | apply below_drew1) | exact HB.out)))); have n3_ := Aside0.mk (below_step (by repeat (first | (with_reducible first | exact HB.out | apply below_alloc | apply pw_below_drewN | apply below_drew1) | exact HB.out)) hb); clear HO_5; clear HO_6; clear HB; have HO_5 := n0_; have HO_6 := n1_; have HO718 := n2_; have HB := n3_; clear n0_ n1_ n2_ n3_; clear hb ho11; obtain ⟨Ao13, co13, eo13⟩ := Kd.R_slice HO718.out; subst eo13) | ((with_reducible refine gate_builtin (b := .append) (xs := #[.tmp 27, .tmp 32]) rfl ?_); (try (refine gate_guard (by rfl) ?_; dsimp only)); at_builtin; refine Kd.R_append_rows k38 (w0 := w) w.heap.size rfl (.tmp 27) (.tmp 32) 35 38 (.agg #[(.int .i64 0), (.int .i64 0), (.int .i64 0)]) 24 rfl Try.underlying35 info38 rfl (by decide) (by omega) u5 x5_1 y716 _ _ _ (fun k_ => some k_ ≠ (.slice (some ad714) t711.length co9 : Value).ownBlock ∧ some k_ ≠ (.slice Ao13 y716.length co13 : Value).ownBlock) (fun _ => False) rfl rfl ?aO ?aR (fun _ _ h => h) (fun _ h => h.elim) ?aF ?aB ?aS ?aL ?_; (case aR => repeat (first | exact (Kd.R_reads' HO718.out).2.2 | (with_reducible refine Kd.C_alloc ?_ _) | (with_reducible refine Kd.C_drewN ?_ _) | (with_reducible refine Kd.C_drew ?_))); (case aB => exact (by repeat (first | (with_reducible first | exact HB.out | apply below_alloc | apply pw_below_drewN | apply below_drew1) | exact HB.out))); (case aF => exact (fun k_ hk => ⟨Kd.fresh' (Kd.R_lt (by (with_reducible repeat (first | apply Kd.R_alloc | apply Kd.R_drewN | apply Kd.R_drew)); exact HO_6.out)) k_ hk, Kd.fresh' (Kd.R_lt (by (with_reducible repeat (first | apply Kd.R_alloc | apply Kd.R_drewN | apply Kd.R_drew)); exact HO718.out)) k_ hk⟩)); (case aO => exact (by (with_reducible repeat (first | apply Kd.R_alloc | apply Kd.R_drewN | apply Kd.R_drew)); exact HO_5.out)); (case aS => exact (below_size (by repeat (first | (with_reducible first | exact HB.out | apply below_alloc | apply pw_below_drewN | apply below_drew1) | exact HB.out)))); (case aL => have := LMc8.out; omega); intro v720 w12 ho hb hg hat; rw [← Ny719.out] at ho; have n0_ := Aside0.mk (Kd.R_after (ok := (fun k_ => some k_ ≠ (.slice Ao13 y716.length co13 : Value).ownBlock)) (by (with_reducible repeat (first | apply Kd.R_alloc | apply Kd.R_drewN | apply Kd.R_drew)); exact Kd.R_mono HO_6.out (fun _ hk => ⟨hk.2, hk.1⟩)) hg hat); have n1_ := Aside0.mk (Kd.R_after (ok := (fun k_ => some k_ ≠ (.slice (some ad714) t711.length co9 : Value).ownBlock)) (by (with_reducible repeat (first | apply Kd.R_alloc | apply Kd.R_drewN | apply Kd.R_drew)); exact Kd.R_mono HO718.out (fun _ hk => ⟨hk.2, hk.1.2⟩)) hg hat); have n2_ := Aside0.mk (hb); have n3_ := Aside0.mk (ho); clear HO_6; clear HO718; clear HB; clear HO_5; have HO_6 := n0_; have HO718 := n1_; have HB := n2_; have HO721 := n3_; clear n0_ n1_ n2_ n3_; clear ho hb hg hat))
    go_roundg k1
    case measure => have := HK1.out; omega
    case rel => exact ⟨(y719), (wrap64 (x7_1 + 1)), (by first | rfl | (simp; done) | (simp [*]; done)), H', ⟨by have := HK1.out; omega⟩, ⟨by (with_reducible repeat (first | apply Kd.R_alloc | apply Kd.R_drewN | apply Kd.R_drew)); exact Kd.R_mono HO721.out (fun _ hk => hk.1)⟩, ⟨by (with_reducible repeat (first | apply Kd.R_alloc | apply Kd.R_drewN | apply Kd.R_drew)); exact Kd.R_mono HO_6.out (fun _ hk => hk.2)⟩, ⟨by repeat (first | (with_reducible first | exact HB.out | apply below_alloc | apply pw_below_drewN | apply below_drew1) | exact HB.out)⟩⟩
   rw [if_neg c5] at H
   have c5b0 : decide (x7_1 < (t711.length : Int)) = false := decide_eq_false c5
   clear c5
   replace H := Option.bind_eq_some_iff.mp H
   obtain ⟨t722, A150, H⟩ := H
   replace H : (if (x5_1.length : Int) = 0 then (sobriquetlaw18_TeletexDirect.j1 k1 a0 a1 x5_1 t722 true) else (sobriquetlaw18_TeletexDirect.j1 k1 a0 a1 x5_1 t722 ((t722.length : Int) == 0))) = some r := H
   have A15 := Aside0.mk A150
   clear A150
   have HC16 := Aside0.mk H
   clear H
   obtain ⟨Ao17, co17, eo17⟩ := Kd.R_slice HO_6.out
   subst eo17
   go_upto_region 9 with (first | ((with_reducible refine gate_callee (f := 24) rfl ?_); refine goesL_ (some 34) rfl rfl Try.func24 (by kernel_rfl) rfl #[] rfl (by (try simp only [List.map_toArray, List.map_cons, List.map_nil]); first | done | rfl | (simp only [List.length_drop, List.length_take]; rfl)) ?_; (with_reducible refine (api_Sets.calls  t722 _ A15.out).mono ?_); rintro e w18 ⟨v723, rfl, ho0, hb⟩; refine ⟨_, rfl, ?_⟩; have n0_ := Aside0.mk (Kd.R_below (by (with_reducible repeat (first | apply Kd.R_alloc | apply Kd.R_drewN | apply Kd.R_drew)); exact HO_5.out) hb); have n1_ := Aside0.mk (Kd.R_below (by (with_reducible repeat (first | apply Kd.R_alloc | apply Kd.R_drewN | apply Kd.R_drew)); exact HO_6.out) hb); have n2_ := Aside0.mk (Kd.R_lower ho0 (below_size (by repeat (first | (with_reducible first | exact HB.out | apply below_alloc | apply pw_below_drewN | apply below_drew1) | exact HB.out)))); have n3_ := Aside0.mk (below_step (by repeat (first | (with_reducible first | exact HB.out | apply below_alloc | apply pw_below_drewN | apply below_drew1) | exact HB.out)) hb); clear HO_5; clear HO_6; clear HB; have HO_5 := n0_; have HO_6 := n1_; have HO724 := n2_; have HB := n3_; clear n0_ n1_ n2_ n3_; (try clear hb); (try clear hb2); (try clear hk); (try clear hi); (try clear ho0)))
   (try simp only [Act.put, List.setIfInBounds_toArray, List.set_cons_zero, List.set_cons_succ])
   go_cut [42] (fun v42 wc => ∃ (kq : Nat) (x42_15 : Bool), v42 = .bool x42_15 ∧ Aside0 (sobriquetlaw18_TeletexDirect.j1 kq a0 a1 x5_1 t722 x42_15 = some r) ∧ Aside0 (kq ≤ k1) ∧ Aside0 (Kd.R k38 38 wc w.heap.size (fun _ => True) u5 x5_1) ∧ Aside0 (Kd.R (Kd.int .i64) 3 wc w.heap.size (fun _ => True) v723 t722) ∧ Aside0 (Below w.heap.size w wc))
   case first =>
    have H := HC16.out
    clear HC16
    by_cases c19 : (x5_1.length : Int) = 0
    ·rw [if_pos c19] at H
     have c19b0 : ((x5_1.length : Int) == 0) = true := beq_iff_eq.mpr c19
     have c19b1 : ((x5_1.length : Int) != 0) = false := bne_eq_false_iff_eq.mpr c19
     clear c19
     (first | rw [c19b0] | (simp only [i64_w, i32_w]; rw [c19b0]) | skip)
     have H' := Aside0.mk H
     clear H
     obtain ⟨Ao20, co20, eo20⟩ := Kd.R_slice HO_5.out
     subst eo20
     go_wp2
     go_meet
     case rel => exact ⟨_, (true), (by first | rfl | (simp; done) | (simp [*]; done)), H', ⟨by have := HK1.out; first | omega | exact Nat.le_refl _⟩, ⟨by (with_reducible repeat (first | apply Kd.R_alloc | apply Kd.R_drewN | apply Kd.R_drew)); exact Kd.R_mono HO_5.out (fun _ hk => trivial)⟩, ⟨by (with_reducible repeat (first | apply Kd.R_alloc | apply Kd.R_drewN | apply Kd.R_drew)); exact HO724.out⟩, ⟨by repeat (first | (with_reducible first | exact HB.out | apply below_alloc | apply pw_below_drewN | apply below_drew1) | exact HB.out)⟩⟩
    rw [if_neg c19] at H
    have c19b0 : ((x5_1.length : Int) == 0) = false := beq_eq_false_iff_ne.mpr c19
    have c19b1 : ((x5_1.length : Int) != 0) = true := bne_iff_ne.mpr c19
    have c19b2 : ¬ (x5_1 = []) := fun h_ => c19 (by rw [h_]; rfl)
    (first | rw [c19b0] | (simp only [i64_w, i32_w]; rw [c19b0]) | skip)
    have H' := Aside0.mk H
    clear H
    obtain ⟨Ao21, co21, eo21⟩ := Kd.R_slice HO_5.out
    subst eo21
    obtain ⟨Ao22, co22, eo22⟩ := Kd.R_slice HO724.out
    subst eo22
    go_wp2
    go_meet
    case rel => exact ⟨_, (((t722.length : Int) == 0)), (by first | rfl | (simp; done) | (simp [*]; done)), H', ⟨by have := HK1.out; first | omega | exact Nat.le_refl _⟩, ⟨by (with_reducible repeat (first | apply Kd.R_alloc | apply Kd.R_drewN | apply Kd.R_drew)); exact Kd.R_mono HO_5.out (fun _ hk => trivial)⟩, ⟨by (with_reducible repeat (first | apply Kd.R_alloc | apply Kd.R_drewN | apply Kd.R_drew)); exact HO724.out⟩, ⟨by repeat (first | (with_reducible first | exact HB.out | apply below_alloc | apply pw_below_drewN | apply below_drew1) | exact HB.out)⟩⟩
   case rest =>
    clear HC16
    try clear c1
    try clear c2
    try clear p2
    try clear c3
    try clear c5
    try clear c5b0
    try clear c6
    try clear c6b0
    try clear p6
    try clear c7
    try clear c7b0
    try clear c7b1
    try clear p7
    try clear q7
    try clear hx7
    try clear c8
    try clear c9
    try clear c16
    try clear c19
    try clear c19b0
    try clear c19b1
    try clear c19b2
    try clear hx714_0
    try clear hx714_1
    try clear hx714_2
    try clear hx715_0
    try clear hx715_1
    try clear hx715_2
    try clear p2
    try clear p714
    try clear p715
    try clear q714
    try clear q715
    obtain ⟨kq, x42_15, rfl, HA, HJ15, HO_5, HO_8, HB⟩ := hcut
    cases kq with
    | zero => exact absurd HA.out (by simp [sobriquetlaw18_TeletexDirect.j1])
    | succ kj15 =>
     have H := HA.out
     clear HA
     simp only [sobriquetlaw18_TeletexDirect.j1] at H
     by_cases c23 : x42_15 = true
     ·subst c23
      have H1 : (some false) = some r := by rw [if_pos rfl] at H; exact H
      clear H
      have H := H1
      clear H1
      obtain rfl := Option.some.inj H
      go_wp2
      go_ret
      exact ⟨by first | rfl | (simp [errW_none, errW_some] <;> rfl) | (simp [*, errW_none, errW_some] <;> rfl), by repeat (first | (with_reducible first | exact HB.out | apply below_alloc | apply pw_below_drewN | apply below_drew1) | exact HB.out)⟩
     replace c23 := Bool.eq_false_iff.mpr c23
     subst c23
     have H1 : (if (IntKind.u64.wrap ((x5_1.length : Int))) = 0 then (none) else (if 0 ≤ (wrap64 (Int.tmod (IntKind.u64.wrap (a0)) (IntKind.u64.wrap ((x5_1.length : Int))))) then (if (wrap64 (Int.tmod (IntKind.u64.wrap (a0)) (IntKind.u64.wrap ((x5_1.length : Int))))) < (x5_1.length : Int) then (if (IntKind.u64.wrap ((t722.length : Int))) = 0 then (none) else (if 0 ≤ (wrap64 (Int.tmod (IntKind.u64.wrap (a1)) (IntKind.u64.wrap ((t722.length : Int))))) then (if (wrap64 (Int.tmod (IntKind.u64.wrap (a1)) (IntKind.u64.wrap ((t722.length : Int))))) < (t722.length : Int) then ((sobriquetref13_Escape.f 0 (rd t722 (wrap64 (Int.tmod (IntKind.u64.wrap (a1)) (IntKind.u64.wrap ((t722.length : Int))))))).bind fun t728 => ((some (([(wrap64 (((rd_T38 x5_1 (wrap64 (Int.tmod (IntKind.u64.wrap (a0)) (IntKind.u64.wrap ((x5_1.length : Int)))))).f1) + 128)) % 256] : List Int) : List Int)).bind fun y731 => (if t728.length + y731.length < 140737488355328 then ((teletex_Read.f kj15 (t728 ++ y731)).bind fun bt737 => (if bt737.2.2 = 0 then ((sobriquetkeep_Ints.f kj15 bt737.1 (([(rd_T38 x5_1 (wrap64 (Int.tmod (IntKind.u64.wrap (a0)) (IntKind.u64.wrap ((x5_1.length : Int)))))).f2] : List Int))).bind fun t745 => (if t745 = true then ((sobriquetlaw18_wakes.f).bind fun t746 => (some t746)) else (some false))) else (some false))) else (none)))) else (none)) else (none))) else (none)) else (none))) = some r := by rw [if_neg (show ¬ (false = true) by decide)] at H; exact H
     clear H
     have H := H1
     clear H1
     by_cases c24 : (IntKind.u64.wrap ((x5_1.length : Int))) = 0
     ·rw [if_pos c24] at H
      exact absurd H (by simp)
     rw [if_neg c24] at H
     have c24b0 : ((IntKind.u64.wrap ((x5_1.length : Int))) == 0) = false := beq_eq_false_iff_ne.mpr c24
     have c24b1 : ((IntKind.u64.wrap ((x5_1.length : Int))) != 0) = true := bne_iff_ne.mpr c24
     obtain ⟨ji25, hji25⟩ : ∃ j_ : Int, (wrap64 (Int.tmod (IntKind.u64.wrap (a0)) (IntKind.u64.wrap ((x5_1.length : Int))))) = j_ := ⟨_, rfl⟩
     replace H : (if 0 ≤ (ji25) then (if (ji25) < (x5_1.length : Int) then (if (IntKind.u64.wrap ((t722.length : Int))) = 0 then (none) else (if 0 ≤ (wrap64 (Int.tmod (IntKind.u64.wrap (a1)) (IntKind.u64.wrap ((t722.length : Int))))) then (if (wrap64 (Int.tmod (IntKind.u64.wrap (a1)) (IntKind.u64.wrap ((t722.length : Int))))) < (t722.length : Int) then ((sobriquetref13_Escape.f 0 (rd t722 (wrap64 (Int.tmod (IntKind.u64.wrap (a1)) (IntKind.u64.wrap ((t722.length : Int))))))).bind fun t728 => ((some (([(wrap64 (((rd_T38 x5_1 (ji25)).f1) + 128)) % 256] : List Int) : List Int)).bind fun y731 => (if t728.length + y731.length < 140737488355328 then ((teletex_Read.f kj15 (t728 ++ y731)).bind fun bt737 => (if bt737.2.2 = 0 then ((sobriquetkeep_Ints.f kj15 bt737.1 (([(rd_T38 x5_1 (ji25)).f2] : List Int))).bind fun t745 => (if t745 = true then ((sobriquetlaw18_wakes.f).bind fun t746 => (some t746)) else (some false))) else (some false))) else (none)))) else (none)) else (none))) else (none)) else (none)) = some r := by first | (rw [hji25] at H; exact H) | (simp only [hji25] at H ⊢; exact H)
     have hji25w : (IntKind.i64.wrap (Int.tmod (IntKind.u64.wrap (a0)) (IntKind.u64.wrap ((x5_1.length : Int))))) = ji25 := (i64_w _).trans hji25
     by_cases c26 : 0 ≤ (ji25)
     rotate_left
     ·rw [if_neg c26] at H
      exact absurd H (by simp)
     rw [if_pos c26] at H
     have c26b0 : decide (0 ≤ (ji25)) = true := decide_eq_true c26
     clear c26
     by_cases c27 : (ji25) < (x5_1.length : Int)
     rotate_left
     ·rw [if_neg c27] at H
      exact absurd H (by simp)
     rw [if_pos c27] at H
     have c27b0 : decide ((ji25) < (x5_1.length : Int)) = true := decide_eq_true c27
     clear c27
     by_cases c28 : (IntKind.u64.wrap ((t722.length : Int))) = 0
     ·rw [if_pos c28] at H
      exact absurd H (by simp)
     rw [if_neg c28] at H
     have c28b0 : ((IntKind.u64.wrap ((t722.length : Int))) == 0) = false := beq_eq_false_iff_ne.mpr c28
     have c28b1 : ((IntKind.u64.wrap ((t722.length : Int))) != 0) = true := bne_iff_ne.mpr c28
     obtain ⟨ji29, hji29⟩ : ∃ j_ : Int, (wrap64 (Int.tmod (IntKind.u64.wrap (a1)) (IntKind.u64.wrap ((t722.length : Int))))) = j_ := ⟨_, rfl⟩
     replace H : (if 0 ≤ (ji29) then (if (ji29) < (t722.length : Int) then ((sobriquetref13_Escape.f 0 (rd t722 (ji29))).bind fun t728 => ((some (([(wrap64 (((rd_T38 x5_1 (ji25)).f1) + 128)) % 256] : List Int) : List Int)).bind fun y731 => (if t728.length + y731.length < 140737488355328 then ((teletex_Read.f kj15 (t728 ++ y731)).bind fun bt737 => (if bt737.2.2 = 0 then ((sobriquetkeep_Ints.f kj15 bt737.1 (([(rd_T38 x5_1 (ji25)).f2] : List Int))).bind fun t745 => (if t745 = true then ((sobriquetlaw18_wakes.f).bind fun t746 => (some t746)) else (some false))) else (some false))) else (none)))) else (none)) else (none)) = some r := by first | (rw [hji29] at H; exact H) | (simp only [hji29] at H ⊢; exact H)
     have hji29w : (IntKind.i64.wrap (Int.tmod (IntKind.u64.wrap (a1)) (IntKind.u64.wrap ((t722.length : Int))))) = ji29 := (i64_w _).trans hji29
     by_cases c30 : 0 ≤ (ji29)
     rotate_left
     ·rw [if_neg c30] at H
      exact absurd H (by simp)
     rw [if_pos c30] at H
     have c30b0 : decide (0 ≤ (ji29)) = true := decide_eq_true c30
     clear c30
     by_cases c31 : (ji29) < (t722.length : Int)
     rotate_left
     ·rw [if_neg c31] at H
      exact absurd H (by simp)
     rw [if_pos c31] at H
     have c31b0 : decide ((ji29) < (t722.length : Int)) = true := decide_eq_true c31
     clear c31
     replace H := Option.bind_eq_some_iff.mp H
     obtain ⟨t728, A320, H⟩ := H
     replace H : ((some (([(wrap64 (((rd_T38 x5_1 (ji25)).f1) + 128)) % 256] : List Int) : List Int)).bind fun y731 => (if t728.length + y731.length < 140737488355328 then ((teletex_Read.f kj15 (t728 ++ y731)).bind fun bt737 => (if bt737.2.2 = 0 then ((sobriquetkeep_Ints.f kj15 bt737.1 (([(rd_T38 x5_1 (ji25)).f2] : List Int))).bind fun t745 => (if t745 = true then ((sobriquetlaw18_wakes.f).bind fun t746 => (some t746)) else (some false))) else (some false))) else (none))) = some r := H
     have A32 := Aside0.mk A320
     clear A320
     obtain ⟨y731, hy731⟩ : ∃ y_ : List Int, y_ = (([(wrap64 (((rd_T38 x5_1 (ji25)).f1) + 128)) % 256] : List Int)) := ⟨_, rfl⟩
     replace H : (if t728.length + y731.length < 140737488355328 then ((teletex_Read.f kj15 (t728 ++ y731)).bind fun bt737 => (if bt737.2.2 = 0 then ((sobriquetkeep_Ints.f kj15 bt737.1 (([(rd_T38 x5_1 (ji25)).f2] : List Int))).bind fun t745 => (if t745 = true then ((sobriquetlaw18_wakes.f).bind fun t746 => (some t746)) else (some false))) else (some false))) else (none)) = some r := by first | (rw [hy731]; with_reducible exact H) | (have H2_ := (Option.bind_some _ _).symm.trans H; rw [hy731]; with_reducible exact H2_) | (have H2_ := (Option.bind_some _ _).symm.trans H; with_reducible exact H2_) | with_reducible exact H | (rw [hy731]; exact H) | exact H
     have Ny731 := Aside0.mk hy731
     clear hy731
     by_cases c33 : t728.length + y731.length < 140737488355328
     rotate_left
     ·rw [if_neg c33] at H
      exact absurd H (by simp)
     rw [if_pos c33] at H
     have LMc33 := Aside0.mk c33
     clear c33
     obtain ⟨y734, hy734⟩ : ∃ y_ : List Int, y_ = (t728 ++ y731) := ⟨_, rfl⟩
     replace H : ((teletex_Read.f kj15 y734).bind fun bt737 => (if bt737.2.2 = 0 then ((sobriquetkeep_Ints.f kj15 bt737.1 (([(rd_T38 x5_1 (ji25)).f2] : List Int))).bind fun t745 => (if t745 = true then ((sobriquetlaw18_wakes.f).bind fun t746 => (some t746)) else (some false))) else (some false))) = some r := by first | (rw [hy734]; with_reducible exact H) | (have H2_ := (Option.bind_some _ _).symm.trans H; rw [hy734]; with_reducible exact H2_) | (have H2_ := (Option.bind_some _ _).symm.trans H; with_reducible exact H2_) | with_reducible exact H | (rw [hy734]; exact H) | exact H
     have Ny734 := Aside0.mk hy734
     clear hy734
     replace H := Option.bind_eq_some_iff.mp H
     obtain ⟨⟨t737, t738, t739⟩, A340, H⟩ := H
     replace H : (if t739 = 0 then ((sobriquetkeep_Ints.f kj15 t737 (([(rd_T38 x5_1 (ji25)).f2] : List Int))).bind fun t745 => (if t745 = true then ((sobriquetlaw18_wakes.f).bind fun t746 => (some t746)) else (some false))) else (some false)) = some r := H
     have A34 := Aside0.mk A340
     clear A340
     by_cases c35 : t739 = 0
     rotate_left
     ·rw [if_neg c35] at H
      have c35b0 : (t739 == 0) = false := beq_eq_false_iff_ne.mpr c35
      have c35b1 : (t739 != 0) = true := bne_iff_ne.mpr c35
      obtain rfl := Option.some.inj H
      obtain ⟨Ao78, co78, eo78⟩ := Kd.R_slice HO_5.out
      subst eo78
      have p725 : 0 ≤ ((ji25) : Int) := of_decide_eq_true (by first | (with_reducible assumption) | assumption)
      have q725 : (ji25) < (x5_1.length : Int) := of_decide_eq_true (by first | (with_reducible assumption) | assumption)
      obtain ⟨ad725, e725, hx725_0, hx725_1, hx725_2⟩ := at_T38 (Kd.R_reads' HO_5.out).2.2 (ji25) p725 q725
      cases e725
      replace p725 := eq_true p725
      replace q725 := eq_true q725
      try go_wp2_with (first | ((with_reducible refine gate_dst (N := 9) rfl ?_); (try (refine gate_guard (by rfl) ?_; dsimp only)); refine box_event ?hg (N := 9) ?hd (cs := #[.int .i64 0, .int .i64 0, .int .i64 0]) (t := 38) ?hr ?_; (case hd => rfl); (case hg => rfl); (case hr => first | (go_simp; done) | (go_simp; rfl)); intro gb726 hg w79 hbox hb; have n0_ := Aside0.mk (Kd.R_below (Kd.R_elderB (by (with_reducible repeat (first | apply Kd.R_alloc | apply Kd.R_drewN | apply Kd.R_drew)); exact HO_5.out) gb726 (Nat.le_of_eq hg.symm)) hb); have n1_ := Aside0.mk (Kd.R_below (by (with_reducible repeat (first | apply Kd.R_alloc | apply Kd.R_drewN | apply Kd.R_drew)); exact HO_8.out) hb); have n2_ := Aside0.mk (below_step (by repeat (first | (with_reducible first | exact HB.out | apply below_alloc | apply pw_below_drewN | apply below_drew1) | exact HB.out)) hb); have n3_ := Aside0.mk (hbox); have n4_ := Aside0.mk ((by rw [hg]; exact (below_size (by repeat (first | (with_reducible first | exact HB.out | apply below_alloc | apply pw_below_drewN | apply below_drew1) | exact HB.out))) : w.heap.size ≤ gb726)); have n5_ := Aside0.mk ((by rw [hg]; exact (below_size (by repeat (first | (with_reducible first | exact HB.out | apply below_alloc | apply pw_below_drewN | apply below_drew1) | exact HB.out))) : w.heap.size ≤ gb726)); clear HO_5; clear HO_8; clear HB; have HO_5 := n0_; have HO_8 := n1_; have HB := n2_; have BK726 := n3_; have GW726 := n4_; have GE726 := n5_; clear n0_ n1_ n2_ n3_ n4_ n5_; clear hb hbox hg; have hcz80_0 : w79.cell? ⟨gb726, 0, none⟩ = some (.int .i64 0) := (blk_cell BK726.out 0).trans rfl; have hcz80_1 : w79.cell? ⟨gb726, 1, none⟩ = some (.int .i64 0) := (blk_cell BK726.out 1).trans rfl; have hcz80_2 : w79.cell? ⟨gb726, 2, none⟩ = some (.int .i64 0) := (blk_cell BK726.out 2).trans rfl; have hfz80_0 := blk_frozen BK726.out 0; have hfz80_1 := blk_frozen BK726.out 1; have hfz80_2 := blk_frozen BK726.out 2; obtain ⟨Ao81, co81, eo81⟩ := Kd.R_slice HO_8.out; subst eo81; have p727 : 0 ≤ ((ji29) : Int) := of_decide_eq_true (by first | (with_reducible assumption) | assumption); have q727 : (ji29) < (t722.length : Int) := of_decide_eq_true (by first | (with_reducible assumption) | assumption); obtain ⟨ad727, e727, hx727_0⟩ := Kd.at_int (Kd.R_reads' HO_8.out).2.2 (ji29) p727 q727; cases e727; have hn727_0 : ad727.block ≠ gb726 := Kd.own_blk (Kd.R_ne HO_8.out BK726.out (by decide)); have hn727_1 : ad727.block ≠ gb726 := Kd.own_blk (Kd.R_ne HO_8.out BK726.out (by decide)); have hn727_2 : ad727.block ≠ gb726 := Kd.own_blk (Kd.R_ne HO_8.out BK726.out (by decide)); replace hx727_0 := (cell_far (p := ⟨gb726, 0, none⟩) (by first | (rw [add_block]; exact hn727_0) | (show (Addr.add _ _).block ≠ _; rw [add_block]; exact hn727_0) | exact hn727_0) (.int .i64 ((rd_T38 x5_1 (ji25)).f0))).trans hx727_0; replace hx727_0 := (cell_far (p := ⟨gb726, 1, none⟩) (by first | (rw [add_block]; exact hn727_1) | (show (Addr.add _ _).block ≠ _; rw [add_block]; exact hn727_1) | exact hn727_1) (.int .i64 ((rd_T38 x5_1 (ji25)).f1))).trans hx727_0; replace hx727_0 := (cell_far (p := ⟨gb726, 2, none⟩) (by first | (rw [add_block]; exact hn727_2) | (show (Addr.add _ _).block ≠ _; rw [add_block]; exact hn727_2) | exact hn727_2) (.int .i64 ((rd_T38 x5_1 (ji25)).f2))).trans hx727_0; clear hn727_0; clear hn727_1; clear hn727_2; replace p727 := eq_true p727; replace q727 := eq_true q727))
      have n0_ : Aside0 (Kd.R k38 38 (((w79.setCell ⟨gb726, 0, none⟩ (.int .i64 ((rd_T38 x5_1 (ji25)).f0))).setCell ⟨gb726, 1, none⟩ (.int .i64 ((rd_T38 x5_1 (ji25)).f1))).setCell ⟨gb726, 2, none⟩ (.int .i64 ((rd_T38 x5_1 (ji25)).f2))) w.heap.size (fun k_ => k_ ≠ gb726) (.slice (some ad725) x5_1.length co78) x5_1) := ⟨by (with_reducible repeat (first | apply Kd.R_alloc | apply Kd.R_drewN | apply Kd.R_drew)); exact Kd.R_mono (Kd.R_far (p := ⟨gb726, 2, none⟩) (Kd.R_far (p := ⟨gb726, 1, none⟩) (Kd.R_far (p := ⟨gb726, 0, none⟩) (Kd.R_mono HO_5.out (fun k_ hk => (⟨hk, hk.2⟩ : _ ∧ k_ ≠ gb726))) (fun _ hk => hk.2) (.int .i64 ((rd_T38 x5_1 (ji25)).f0))) (fun _ hk => hk.2) (.int .i64 ((rd_T38 x5_1 (ji25)).f1))) (fun _ hk => hk.2) (.int .i64 ((rd_T38 x5_1 (ji25)).f2))) (fun _ hk => hk.1.2)⟩
      have n1_ : Aside0 (Kd.R (Kd.int .i64) 3 (((w79.setCell ⟨gb726, 0, none⟩ (.int .i64 ((rd_T38 x5_1 (ji25)).f0))).setCell ⟨gb726, 1, none⟩ (.int .i64 ((rd_T38 x5_1 (ji25)).f1))).setCell ⟨gb726, 2, none⟩ (.int .i64 ((rd_T38 x5_1 (ji25)).f2))) w.heap.size (fun _ => True) (.slice (some ad727) t722.length co81) t722) := ⟨by (with_reducible repeat (first | apply Kd.R_alloc | apply Kd.R_drewN | apply Kd.R_drew)); exact Kd.R_mono (Kd.R_far (p := ⟨gb726, 2, none⟩) (Kd.R_far (p := ⟨gb726, 1, none⟩) (Kd.R_far (p := ⟨gb726, 0, none⟩) (Kd.R_types HO_8.out BK726.out (by decide)) (fun _ hk => hk.2) (.int .i64 ((rd_T38 x5_1 (ji25)).f0))) (fun _ hk => hk.2) (.int .i64 ((rd_T38 x5_1 (ji25)).f1))) (fun _ hk => hk.2) (.int .i64 ((rd_T38 x5_1 (ji25)).f2))) (fun _ hk => trivial)⟩
      have n2_ : Aside0 ((((w79.setCell ⟨gb726, 0, none⟩ (.int .i64 ((rd_T38 x5_1 (ji25)).f0))).setCell ⟨gb726, 1, none⟩ (.int .i64 ((rd_T38 x5_1 (ji25)).f1))).setCell ⟨gb726, 2, none⟩ (.int .i64 ((rd_T38 x5_1 (ji25)).f2))).heap[gb726]? = some (.cells #[.int .i64 ((rd_T38 x5_1 (ji25)).f0), .int .i64 ((rd_T38 x5_1 (ji25)).f1), .int .i64 ((rd_T38 x5_1 (ji25)).f2)] 38 (0, 0))) := ⟨by (with_reducible repeat (first | refine blk_drewN ?_ _ | refine blk_drew ?_ | refine blk_alloc ?_ _)); refine blk_put (cs := #[.int .i64 ((rd_T38 x5_1 (ji25)).f0), .int .i64 ((rd_T38 x5_1 (ji25)).f1), .int .i64 0]) ?_ 2 _ rfl; (with_reducible repeat (first | refine blk_drewN ?_ _ | refine blk_drew ?_ | refine blk_alloc ?_ _)); refine blk_put (cs := #[.int .i64 ((rd_T38 x5_1 (ji25)).f0), .int .i64 0, .int .i64 0]) ?_ 1 _ rfl; (with_reducible repeat (first | refine blk_drewN ?_ _ | refine blk_drew ?_ | refine blk_alloc ?_ _)); refine blk_put (cs := #[.int .i64 0, .int .i64 0, .int .i64 0]) ?_ 0 _ rfl; (with_reducible repeat (first | refine blk_drewN ?_ _ | refine blk_drew ?_ | refine blk_alloc ?_ _)); exact BK726.out⟩
      have n3_ : Aside0 (Below w.heap.size w (((w79.setCell ⟨gb726, 0, none⟩ (.int .i64 ((rd_T38 x5_1 (ji25)).f0))).setCell ⟨gb726, 1, none⟩ (.int .i64 ((rd_T38 x5_1 (ji25)).f1))).setCell ⟨gb726, 2, none⟩ (.int .i64 ((rd_T38 x5_1 (ji25)).f2)))) := ⟨by repeat (first | (with_reducible first | exact HB.out | apply below_alloc | apply pw_below_drewN | apply below_drew1 | refine below_set ?_ GE726.out) | exact HB.out)⟩
      (try clear HO_5)
      (try clear HO_8)
      (try clear BK726)
      (try clear HB)
      generalize (((w79.setCell ⟨gb726, 0, none⟩ (.int .i64 ((rd_T38 x5_1 (ji25)).f0))).setCell ⟨gb726, 1, none⟩ (.int .i64 ((rd_T38 x5_1 (ji25)).f1))).setCell ⟨gb726, 2, none⟩ (.int .i64 ((rd_T38 x5_1 (ji25)).f2))) = w82 at n0_ n1_ n2_ n3_ ⊢
      have HO_5 := n0_
      have HO_8 := n1_
      have BK726 := n2_
      have HB := n3_
      clear n0_ n1_ n2_ n3_
      have n0_ := Aside0.mk (Kd.R_drew HO_5.out)
      have n1_ := Aside0.mk (Kd.R_drew HO_8.out)
      have n2_ := Aside0.mk (blk_drew BK726.out)
      have n3_ := Aside0.mk (below_drew1 HB.out)
      clear HO_5
      clear HO_8
      clear BK726
      clear HB
      have HO_5 := n0_
      have HO_8 := n1_
      have BK726 := n2_
      have HB := n3_
      clear n0_ n1_ n2_ n3_
      refine start_ (n := 16) (S := fun w' => w'.cell? ⟨gb726, 0, none⟩ = some (.int .i64 ((rd_T38 x5_1 (ji25)).f0)) ∧ w'.cell? ⟨gb726, 1, none⟩ = some (.int .i64 ((rd_T38 x5_1 (ji25)).f1)) ∧ w'.cell? ⟨gb726, 2, none⟩ = some (.int .i64 ((rd_T38 x5_1 (ji25)).f2))) (ds := []) qm_M19_0 (by kernel_rfl) rfl rfl ⟨(blk_cell BK726.out 0).trans rfl, (blk_cell BK726.out 1).trans rfl, (blk_cell BK726.out 2).trans rfl⟩ (fun hHeld => ?_); refine with_tabW sobriquetlaw18_TeletexDirect.tab13 sobriquetlaw18_TeletexDirect.bits13 (fun HT_ HW_ => ?_)
      generalize w82.drew = w83 at HO_5 HO_8 BK726 HB hHeld ⊢
      refine pure_ (i := 0) (N := some 64) (v := ?_) (a' := ?_) qm_M19_1 rfl rfl (any_of HT_.out (by kernel_rfl)) (fun _ _ _ h => h) (Or.inl ⟨by rfl, ?_⟩) ?_ ?_
      rotate_left
      ·intro w'
       go_simp
       with_reducible rfl
      rotate_left
      ·simp only [Act.put, List.setIfInBounds_toArray, List.set_cons_zero, List.set_cons_succ, i64_w, i32_w]
       rfl
      refine pure_ (i := 2) (N := some 66) (v := ?_) (a' := ?_) qm_M19_2 rfl rfl (any_of HT_.out (by kernel_rfl)) (fun _ _ _ h => h) (Or.inl ⟨by rfl, ?_⟩) ?_ ?_
      rotate_left
      ·intro w'
       go_simp
       with_reducible rfl
      rotate_left
      ·simp only [Act.put, List.setIfInBounds_toArray, List.set_cons_zero, List.set_cons_succ, i64_w, i32_w]
       rfl
      refine take_ (i := 3) (N := some 67) (v := ?_) (a' := ?_) qm_M19_3 rfl rfl (take_ofW HT_.out HW_.out (by kernel_rfl)) (fun _ _ _ h => h) (Or.inl ⟨by rfl, ?_⟩) hHeld ?_ ?_
      rotate_left
      ·rintro w' ⟨s0, s1, s2⟩
       go_simp
       with_reducible rfl
      rotate_left
      ·simp only [Act.put, List.setIfInBounds_toArray, List.set_cons_zero, List.set_cons_succ, i64_w, i32_w]
       rfl
      refine pure_ (i := 4) (N := some 68) (v := ?_) (a' := ?_) qm_M19_4 rfl rfl (any_of HT_.out (by kernel_rfl)) (fun _ _ _ h => h) (Or.inl ⟨by rfl, ?_⟩) ?_ ?_
      rotate_left
      ·intro w'
       go_simp
       with_reducible rfl
      rotate_left
      ·simp only [Act.put, List.setIfInBounds_toArray, List.set_cons_zero, List.set_cons_succ, i64_w, i32_w]
       rfl
      refine pure_ (i := 5) (N := some 69) (v := ?_) (a' := ?_) qm_M19_5 rfl rfl (any_of HT_.out (by kernel_rfl)) (fun _ _ _ h => h) (Or.inl ⟨by rfl, ?_⟩) ?_ ?_
      rotate_left
      ·intro w'
       go_simp
       with_reducible rfl
      rotate_left
      ·simp only [Act.put, List.setIfInBounds_toArray, List.set_cons_zero, List.set_cons_succ, i64_w, i32_w]
       rfl
      refine join_ (σ := Value × Value) 9 qm_M19_6 (fun s_ => [(65, s_.1), (70, s_.2)]) (fun s_ w' => (w'.cell? ⟨gb726, 0, none⟩ = some (.int .i64 ((rd_T38 x5_1 (ji25)).f0)) ∧ w'.cell? ⟨gb726, 1, none⟩ = some (.int .i64 ((rd_T38 x5_1 (ji25)).f1)) ∧ w'.cell? ⟨gb726, 2, none⟩ = some (.int .i64 ((rd_T38 x5_1 (ji25)).f2))) ∧ (Kd.R (Kd.int .u8) 5 w' w.heap.size (fun k_ => some k_ ≠ (s_.2 : Value).ownBlock) s_.1 t728) ∧ (Kd.R (Kd.int .u8) 5 w' w.heap.size (fun k_ => some k_ ≠ (s_.1 : Value).ownBlock) s_.2 y731) ∧ (Kd.R k38 38 w' w.heap.size (fun k_ => k_ ≠ gb726) (.slice (some ad725) x5_1.length co78) x5_1) ∧ (Kd.R (Kd.int .i64) 3 w' w.heap.size (fun _ => True) (.slice (some ad727) t722.length co81) t722) ∧ (w'.heap[gb726]? = some (.cells #[.int .i64 ((rd_T38 x5_1 (ji25)).f0), .int .i64 ((rd_T38 x5_1 (ji25)).f1), .int .i64 ((rd_T38 x5_1 (ji25)).f2)] 38 (0, 0))) ∧ (Below w.heap.size w w')) ?_ ?_
      rotate_left
      ·intro hCont
       refine two_ (i := 1) (j := 6) (Ni := some 65) (Nj := some 70) qm_M19_7 qm_M19_8 rfl rfl rfl rfl (two_of HT_.out (by kernel_rfl)) (by decide) (by decide) (fun K hK => ?_) (fun K hK => ?_)
       ·skip
        refine goes_ Try.func17 (by kernel_rfl) rfl #[.int .i64 0, .int .i64 (rd t722 (ji29))] (by rfl) rfl rfl (by (try simp only [List.map_toArray, List.map_cons, List.map_nil]); first | done | (simp only [hji29]; rfl) | rfl | (simp only [List.length_drop, List.length_take]; rfl)) ?_
        with_reducible refine (sobriquetref13_Escape.calls 0 (rd t722 (ji29)) t728 _ A32.out).mono ?_
        rintro e w84 ⟨v729, rfl, ho0, hb⟩
        refine ⟨_, rfl, ?_⟩
        have n0_ := Aside0.mk (Kd.R_below (by (with_reducible repeat (first | apply Kd.R_alloc | apply Kd.R_drewN | apply Kd.R_drew)); exact HO_5.out) hb)
        have n1_ := Aside0.mk (Kd.R_below (by (with_reducible repeat (first | apply Kd.R_alloc | apply Kd.R_drewN | apply Kd.R_drew)); exact HO_8.out) hb)
        have n2_ := Aside0.mk (Kd.R_lower ho0 (below_size (by repeat (first | (with_reducible first | exact HB.out | apply below_alloc | apply pw_below_drewN | apply below_drew1 | refine below_set ?_ GE726.out) | exact HB.out))))
        have n3_ := Aside0.mk (blk_below (g := gb726) (o := .cells #[.int .i64 ((rd_T38 x5_1 (ji25)).f0), .int .i64 ((rd_T38 x5_1 (ji25)).f1), .int .i64 ((rd_T38 x5_1 (ji25)).f2)] 38 (0, 0)) (by (with_reducible repeat (first | refine blk_drewN ?_ _ | refine blk_drew ?_ | refine blk_alloc ?_ _)); exact BK726.out) hb)
        have n4_ := Aside0.mk (below_step (by repeat (first | (with_reducible first | exact HB.out | apply below_alloc | apply pw_below_drewN | apply below_drew1 | refine below_set ?_ GE726.out) | exact HB.out)) hb)
        clear HO_5
        clear HO_8
        clear BK726
        clear HB
        have HO_5 := n0_
        have HO_8 := n1_
        have HO730 := n2_
        have BK726 := n3_
        have HB := n4_
        clear n0_ n1_ n2_ n3_ n4_
        (try clear hb)
        (try clear hb2)
        (try clear hk)
        (try clear hi)
        (try clear ho0)
        refine hK.out _ _ ⟨(blk_cell BK726.out 0).trans rfl, (blk_cell BK726.out 1).trans rfl, (blk_cell BK726.out 2).trans rfl⟩ (fun hHeld => ?_)
        clear hK K
        refine norm_ (a' := ?_) ?_ ?_
        rotate_left
        ·show Act.put _ (some 65) _ = _
         simp only [Act.put, List.setIfInBounds_toArray, List.set_cons_zero, List.set_cons_succ, i64_w, i32_w]
         rfl
        refine one_ (i := 6) (N := some 70) qm_M19_6 rfl rfl (one_of HT_.out (by kernel_rfl)) (by decide) (fun K hK => ?_)
        refine Kd.R_lit_step (Kd.int .u8) _ 5 ?hg (N := 70) ?hd (xs := ([(wrap64 (((rd_T38 x5_1 (ji25)).f1) + 128)) % 256] : List Int)) (inner := [.int .u8 ((wrap64 (((rd_T38 x5_1 (ji25)).f1) + 128)) % 256)]) (ok := fun _ => True) (okp := fun _ => True) ?hr ?hp (fun _ hk => hk) trivial (Below.refl _ _) (Nat.le_refl _) (by simp) ?_; (case hd => rfl); (case hg => rfl); (case hr => first | (go_simp; done) | (go_simp; rfl)); (case hp => exact (Reps.one (show Kd.M (Kd.int .u8) _ _ _ ((wrap64 (((rd_T38 x5_1 (ji25)).f1) + 128)) % 256) [.int .u8 ((wrap64 (((rd_T38 x5_1 (ji25)).f1) + 128)) % 256)] from rfl) (Reps.none _ _)))
        intro v732 w85 ho86 hb hg_ hnew_
        clear hg_ hnew_
        (first | rw [← Ny731.out] at ho86 | (simp only [Int.reduceToNat] at ho86; rw [← Ny731.out] at ho86))
        have n0_ := Aside0.mk (Kd.R_below (by (with_reducible repeat (first | apply Kd.R_alloc | apply Kd.R_drewN | apply Kd.R_drew)); exact HO_5.out) hb)
        have n1_ := Aside0.mk (Kd.R_below (by (with_reducible repeat (first | apply Kd.R_alloc | apply Kd.R_drewN | apply Kd.R_drew)); exact HO_8.out) hb)
        have n2_ := Aside0.mk (Kd.R_elder' (by (with_reducible repeat (first | apply Kd.R_alloc | apply Kd.R_drewN | apply Kd.R_drew)); exact HO730.out) (Kd.R_base ho86) hb)
        have n3_ := Aside0.mk (Kd.R_lower (Kd.R_new' ho86 (Kd.R_lt (by (with_reducible repeat (first | apply Kd.R_alloc | apply Kd.R_drewN | apply Kd.R_drew)); exact HO730.out))) (below_size (by repeat (first | (with_reducible first | exact HB.out | apply below_alloc | apply pw_below_drewN | apply below_drew1 | refine below_set ?_ GE726.out) | exact HB.out))))
        have n4_ := Aside0.mk (blk_below (g := gb726) (o := .cells #[.int .i64 ((rd_T38 x5_1 (ji25)).f0), .int .i64 ((rd_T38 x5_1 (ji25)).f1), .int .i64 ((rd_T38 x5_1 (ji25)).f2)] 38 (0, 0)) (by (with_reducible repeat (first | refine blk_drewN ?_ _ | refine blk_drew ?_ | refine blk_alloc ?_ _)); exact BK726.out) hb)
        have n5_ := Aside0.mk (below_step (by repeat (first | (with_reducible first | exact HB.out | apply below_alloc | apply pw_below_drewN | apply below_drew1 | refine below_set ?_ GE726.out) | exact HB.out)) hb)
        clear HO_5
        clear HO_8
        clear HO730
        clear BK726
        clear HB
        have HO_5 := n0_
        have HO_8 := n1_
        have HO730 := n2_
        have HO733 := n3_
        have BK726 := n4_
        have HB := n5_
        clear n0_ n1_ n2_ n3_ n4_ n5_
        clear hb ho86
        refine hK.out _ _ ⟨(blk_cell BK726.out 0).trans rfl, (blk_cell BK726.out 1).trans rfl, (blk_cell BK726.out 2).trans rfl⟩ (fun hHeld => ?_)
        clear hK K
        refine norm_ (a' := ?_) ?_ ?_
        rotate_left
        ·show Act.put _ (some 70) _ = _
         simp only [Act.put, List.setIfInBounds_toArray, List.set_cons_zero, List.set_cons_succ, i64_w, i32_w]
         rfl
        exact norm_ (by simp only [putAll, Act.put, List.setIfInBounds_toArray, List.set_cons_zero, List.set_cons_succ]) (hCont (v729, v732) _ ⟨hHeld, (by (with_reducible repeat (first | apply Kd.R_alloc | apply Kd.R_drewN | apply Kd.R_drew)); exact Kd.R_mono HO730.out (fun _ hk => hk.2)), (by (with_reducible repeat (first | apply Kd.R_alloc | apply Kd.R_drewN | apply Kd.R_drew)); exact Kd.R_mono HO733.out (fun _ hk => hk.2)), (by (with_reducible repeat (first | apply Kd.R_alloc | apply Kd.R_drewN | apply Kd.R_drew)); exact HO_5.out), (by (with_reducible repeat (first | apply Kd.R_alloc | apply Kd.R_drewN | apply Kd.R_drew)); exact HO_8.out), (by (with_reducible repeat (first | refine blk_drewN ?_ _ | refine blk_drew ?_ | refine blk_alloc ?_ _)); exact BK726.out), (by repeat (first | (with_reducible first | exact HB.out | apply below_alloc | apply pw_below_drewN | apply below_drew1 | refine below_set ?_ GE726.out) | exact HB.out))⟩)
       ·skip
        refine Kd.R_lit_step (Kd.int .u8) _ 5 ?hg (N := 70) ?hd (xs := ([(wrap64 (((rd_T38 x5_1 (ji25)).f1) + 128)) % 256] : List Int)) (inner := [.int .u8 ((wrap64 (((rd_T38 x5_1 (ji25)).f1) + 128)) % 256)]) (ok := fun _ => True) (okp := fun _ => True) ?hr ?hp (fun _ hk => hk) trivial (Below.refl _ _) (Nat.le_refl _) (by simp) ?_; (case hd => rfl); (case hg => rfl); (case hr => first | (go_simp; done) | (go_simp; rfl)); (case hp => exact (Reps.one (show Kd.M (Kd.int .u8) _ _ _ ((wrap64 (((rd_T38 x5_1 (ji25)).f1) + 128)) % 256) [.int .u8 ((wrap64 (((rd_T38 x5_1 (ji25)).f1) + 128)) % 256)] from rfl) (Reps.none _ _)))
        intro v732 w84 ho85 hb hg_ hnew_
        clear hg_ hnew_
        (first | rw [← Ny731.out] at ho85 | (simp only [Int.reduceToNat] at ho85; rw [← Ny731.out] at ho85))
        have n0_ := Aside0.mk (Kd.R_below (by (with_reducible repeat (first | apply Kd.R_alloc | apply Kd.R_drewN | apply Kd.R_drew)); exact HO_5.out) hb)
        have n1_ := Aside0.mk (Kd.R_below (by (with_reducible repeat (first | apply Kd.R_alloc | apply Kd.R_drewN | apply Kd.R_drew)); exact HO_8.out) hb)
        have n2_ := Aside0.mk (Kd.R_lower ho85 (below_size (by repeat (first | (with_reducible first | exact HB.out | apply below_alloc | apply pw_below_drewN | apply below_drew1 | refine below_set ?_ GE726.out) | exact HB.out))))
        have n3_ := Aside0.mk (blk_below (g := gb726) (o := .cells #[.int .i64 ((rd_T38 x5_1 (ji25)).f0), .int .i64 ((rd_T38 x5_1 (ji25)).f1), .int .i64 ((rd_T38 x5_1 (ji25)).f2)] 38 (0, 0)) (by (with_reducible repeat (first | refine blk_drewN ?_ _ | refine blk_drew ?_ | refine blk_alloc ?_ _)); exact BK726.out) hb)
        have n4_ := Aside0.mk (below_step (by repeat (first | (with_reducible first | exact HB.out | apply below_alloc | apply pw_below_drewN | apply below_drew1 | refine below_set ?_ GE726.out) | exact HB.out)) hb)
        clear HO_5
        clear HO_8
        clear BK726
        clear HB
        have HO_5 := n0_
        have HO_8 := n1_
        have HO733 := n2_
        have BK726 := n3_
        have HB := n4_
        clear n0_ n1_ n2_ n3_ n4_
        clear hb ho85
        refine hK.out _ _ ⟨(blk_cell BK726.out 0).trans rfl, (blk_cell BK726.out 1).trans rfl, (blk_cell BK726.out 2).trans rfl⟩ (fun hHeld => ?_)
        clear hK K
        refine norm_ (a' := ?_) ?_ ?_
        rotate_left
        ·show Act.put _ (some 70) _ = _
         simp only [Act.put, List.setIfInBounds_toArray, List.set_cons_zero, List.set_cons_succ, i64_w, i32_w]
         rfl
        refine one_ (i := 1) (N := some 65) qm_M19_6 rfl rfl (one_of HT_.out (by kernel_rfl)) (by decide) (fun K hK => ?_)
        refine goes_ Try.func17 (by kernel_rfl) rfl #[.int .i64 0, .int .i64 (rd t722 (ji29))] (by rfl) rfl rfl (by (try simp only [List.map_toArray, List.map_cons, List.map_nil]); first | done | (simp only [hji29]; rfl) | rfl | (simp only [List.length_drop, List.length_take]; rfl)) ?_
        with_reducible refine (sobriquetref13_Escape.calls 0 (rd t722 (ji29)) t728 _ A32.out).mono ?_
        rintro e w86 ⟨v729, rfl, ho0, hb⟩
        refine ⟨_, rfl, ?_⟩
        have n0_ := Aside0.mk (Kd.R_below (by (with_reducible repeat (first | apply Kd.R_alloc | apply Kd.R_drewN | apply Kd.R_drew)); exact HO_5.out) hb)
        have n1_ := Aside0.mk (Kd.R_below (by (with_reducible repeat (first | apply Kd.R_alloc | apply Kd.R_drewN | apply Kd.R_drew)); exact HO_8.out) hb)
        have n2_ := Aside0.mk (Kd.R_elder' (by (with_reducible repeat (first | apply Kd.R_alloc | apply Kd.R_drewN | apply Kd.R_drew)); exact HO733.out) (Kd.R_base ho0) hb)
        have n3_ := Aside0.mk (Kd.R_lower (Kd.R_new' ho0 (Kd.R_lt (by (with_reducible repeat (first | apply Kd.R_alloc | apply Kd.R_drewN | apply Kd.R_drew)); exact HO733.out))) (below_size (by repeat (first | (with_reducible first | exact HB.out | apply below_alloc | apply pw_below_drewN | apply below_drew1 | refine below_set ?_ GE726.out) | exact HB.out))))
        have n4_ := Aside0.mk (blk_below (g := gb726) (o := .cells #[.int .i64 ((rd_T38 x5_1 (ji25)).f0), .int .i64 ((rd_T38 x5_1 (ji25)).f1), .int .i64 ((rd_T38 x5_1 (ji25)).f2)] 38 (0, 0)) (by (with_reducible repeat (first | refine blk_drewN ?_ _ | refine blk_drew ?_ | refine blk_alloc ?_ _)); exact BK726.out) hb)
        have n5_ := Aside0.mk (below_step (by repeat (first | (with_reducible first | exact HB.out | apply below_alloc | apply pw_below_drewN | apply below_drew1 | refine below_set ?_ GE726.out) | exact HB.out)) hb)
        clear HO_5
        clear HO_8
        clear HO733
        clear BK726
        clear HB
        have HO_5 := n0_
        have HO_8 := n1_
        have HO733 := n2_
        have HO730 := n3_
        have BK726 := n4_
        have HB := n5_
        clear n0_ n1_ n2_ n3_ n4_ n5_
        (try clear hb)
        (try clear hb2)
        (try clear hk)
        (try clear hi)
        (try clear ho0)
        refine hK.out _ _ ⟨(blk_cell BK726.out 0).trans rfl, (blk_cell BK726.out 1).trans rfl, (blk_cell BK726.out 2).trans rfl⟩ (fun hHeld => ?_)
        clear hK K
        refine norm_ (a' := ?_) ?_ ?_
        rotate_left
        ·show Act.put _ (some 65) _ = _
         simp only [Act.put, List.setIfInBounds_toArray, List.set_cons_zero, List.set_cons_succ, i64_w, i32_w]
         rfl
        exact norm_ (by simp only [putAll, Act.put, List.setIfInBounds_toArray, List.set_cons_zero, List.set_cons_succ]) (hCont (v729, v732) _ ⟨hHeld, (by (with_reducible repeat (first | apply Kd.R_alloc | apply Kd.R_drewN | apply Kd.R_drew)); exact Kd.R_mono HO730.out (fun _ hk => hk.2)), (by (with_reducible repeat (first | apply Kd.R_alloc | apply Kd.R_drewN | apply Kd.R_drew)); exact Kd.R_mono HO733.out (fun _ hk => hk.2)), (by (with_reducible repeat (first | apply Kd.R_alloc | apply Kd.R_drewN | apply Kd.R_drew)); exact HO_5.out), (by (with_reducible repeat (first | apply Kd.R_alloc | apply Kd.R_drewN | apply Kd.R_drew)); exact HO_8.out), (by (with_reducible repeat (first | refine blk_drewN ?_ _ | refine blk_drew ?_ | refine blk_alloc ?_ _)); exact BK726.out), (by repeat (first | (with_reducible first | exact HB.out | apply below_alloc | apply pw_below_drewN | apply below_drew1 | refine below_set ?_ GE726.out) | exact HB.out))⟩)
      rintro ⟨v729, v732⟩ w87 ⟨hS_, h0_, h1_, h2_, h3_, h4_, h5_⟩
      have n0_ : Aside0 (Kd.R (Kd.int .u8) 5 w87 w.heap.size (fun k_ => some k_ ≠ (v732 : Value).ownBlock) v729 t728) := ⟨h0_⟩
      have n1_ : Aside0 (Kd.R (Kd.int .u8) 5 w87 w.heap.size (fun k_ => some k_ ≠ (v729 : Value).ownBlock) v732 y731) := ⟨h1_⟩
      have n2_ : Aside0 (Kd.R k38 38 w87 w.heap.size (fun k_ => k_ ≠ gb726) (.slice (some ad725) x5_1.length co78) x5_1) := ⟨h2_⟩
      have n3_ : Aside0 (Kd.R (Kd.int .i64) 3 w87 w.heap.size (fun _ => True) (.slice (some ad727) t722.length co81) t722) := ⟨h3_⟩
      have n4_ : Aside0 (w87.heap[gb726]? = some (.cells #[.int .i64 ((rd_T38 x5_1 (ji25)).f0), .int .i64 ((rd_T38 x5_1 (ji25)).f1), .int .i64 ((rd_T38 x5_1 (ji25)).f2)] 38 (0, 0))) := ⟨h4_⟩
      have n5_ : Aside0 (Below w.heap.size w w87) := ⟨h5_⟩
      clear HO_5
      clear HO_8
      clear BK726
      clear HB
      clear h0_ h1_ h2_ h3_ h4_ h5_
      have HO730 := n0_
      have HO733 := n1_
      have HO_5 := n2_
      have HO_8 := n3_
      have BK726 := n4_
      have HB := n5_
      clear n0_ n1_ n2_ n3_ n4_ n5_
      have hHeld : w87.cell? ⟨gb726, 0, none⟩ = some (.int .i64 ((rd_T38 x5_1 (ji25)).f0)) ∧ w87.cell? ⟨gb726, 1, none⟩ = some (.int .i64 ((rd_T38 x5_1 (ji25)).f1)) ∧ w87.cell? ⟨gb726, 2, none⟩ = some (.int .i64 ((rd_T38 x5_1 (ji25)).f2)) := hS_
      obtain ⟨Ao89, co89, eo89⟩ := Kd.R_slice HO733.out
      (first | subst eo89 | (injection eo89 with f1_ f2_ f3_; have f4_ := f1_.symm; have f5_ := f3_.symm; clear f1_ f2_ f3_; subst f4_; subst f5_))
      refine norm_ (a' := ?_) ?_ ?_
      rotate_left
      ·simp only [putAll, Act.put, List.setIfInBounds_toArray, List.set_cons_zero, List.set_cons_succ]
       rfl
      refine one_ (i := 7) (N := some 71) qm_M19_9 rfl rfl (one_of HT_.out (by kernel_rfl)) (by decide) (fun K hK => ?_)
      refine Kd.R_append_rows_step (Kd.int .u8) (w0 := w) w.heap.size (by rfl) (.tmp 65) (.tmp 70) 23 5 (.int .u8 0) 1 rfl Try.underlying23 info5 rfl (by decide) (by omega) v729 t728 y731 _ _ _ (fun k_ => some k_ ≠ (.slice Ao89 y731.length co89 : Value).ownBlock) (fun _ => False) rfl rfl ?aO ?aR (fun _ _ h => h) (fun _ h => h.elim) ?aF ?aB ?aS ?aL ?_
      (case aR => repeat (first | exact (Kd.R_reads' HO733.out).2.2 | (with_reducible refine Kd.C_alloc ?_ _) | (with_reducible refine Kd.C_drewN ?_ _) | (with_reducible refine Kd.C_drew ?_)))
      (case aB => exact (by repeat (first | (with_reducible first | exact HB.out | apply below_alloc | apply pw_below_drewN | apply below_drew1 | refine below_set ?_ GE726.out) | exact HB.out)))
      (case aF => exact (fun k_ hk => Kd.fresh' (Kd.R_lt (by (with_reducible repeat (first | apply Kd.R_alloc | apply Kd.R_drewN | apply Kd.R_drew)); exact HO733.out)) k_ hk))
      (case aO => exact (by (with_reducible repeat (first | apply Kd.R_alloc | apply Kd.R_drewN | apply Kd.R_drew)); exact HO730.out))
      (case aS => exact (below_size (by repeat (first | (with_reducible first | exact HB.out | apply below_alloc | apply pw_below_drewN | apply below_drew1 | refine below_set ?_ GE726.out) | exact HB.out))))
      (case aL => have := LMc33.out; omega)
      intro v735 w88 ho hb hg hat
      rw [← Ny734.out] at ho
      have n0_ := Aside0.mk (Kd.R_over' (by (with_reducible repeat (first | apply Kd.R_alloc | apply Kd.R_drewN | apply Kd.R_drew)); exact HO_5.out) (Kd.R_typed (by (with_reducible repeat (first | apply Kd.R_alloc | apply Kd.R_drewN | apply Kd.R_drew)); exact HO730.out)) (by decide) hg)
      have n1_ := Aside0.mk (Kd.R_over' (by (with_reducible repeat (first | apply Kd.R_alloc | apply Kd.R_drewN | apply Kd.R_drew)); exact HO_8.out) (Kd.R_typed (by (with_reducible repeat (first | apply Kd.R_alloc | apply Kd.R_drewN | apply Kd.R_drew)); exact HO730.out)) (by decide) hg)
      have n2_ := Aside0.mk (blk_grown (g := gb726) (o := .cells #[.int .i64 ((rd_T38 x5_1 (ji25)).f0), .int .i64 ((rd_T38 x5_1 (ji25)).f1), .int .i64 ((rd_T38 x5_1 (ji25)).f2)] 38 (0, 0)) (by (with_reducible repeat (first | refine blk_drewN ?_ _ | refine blk_drew ?_ | refine blk_alloc ?_ _)); exact BK726.out) hg (Kd.R_ne HO730.out BK726.out (by decide)))
      have n3_ := Aside0.mk (Kd.R_after (ok := (fun _ => True)) (by (with_reducible repeat (first | apply Kd.R_alloc | apply Kd.R_drewN | apply Kd.R_drew)); exact Kd.R_mono HO733.out (fun _ hk => ⟨trivial, hk⟩)) hg hat)
      have n4_ := Aside0.mk (hb)
      have n5_ := Aside0.mk (ho)
      clear HO_5
      clear HO_8
      clear BK726
      clear HO733
      clear HB
      clear HO730
      have HO_5 := n0_
      have HO_8 := n1_
      have BK726 := n2_
      have HO733 := n3_
      have HB := n4_
      have HO736 := n5_
      clear n0_ n1_ n2_ n3_ n4_ n5_
      clear ho hb hg hat
      obtain ⟨Ao90, co90, eo90⟩ := Kd.R_slice HO736.out
      (first | subst eo90 | (injection eo90 with f1_ f2_ f3_; have f4_ := f1_.symm; have f5_ := f3_.symm; clear f1_ f2_ f3_; subst f4_; subst f5_))
      refine hK.out _ _ ⟨(blk_cell BK726.out 0).trans rfl, (blk_cell BK726.out 1).trans rfl, (blk_cell BK726.out 2).trans rfl⟩ (fun hHeld => ?_)
      clear hK K
      refine norm_ (a' := ?_) ?_ ?_
      rotate_left
      ·show Act.put _ (some 71) _ = _
       simp only [Act.put, List.setIfInBounds_toArray, List.set_cons_zero, List.set_cons_succ, i64_w, i32_w]
       rfl
      refine one_ (i := 8) (N := some 72) qm_M19_10 rfl rfl (one_of HT_.out (by kernel_rfl)) (by decide) (fun K hK => ?_)
      refine goes_ Try.func13 (by kernel_rfl) rfl #[.slice Ao90 y734.length co90] (by rfl) rfl rfl (by (try simp only [List.map_toArray, List.map_cons, List.map_nil]); first | done | rfl | (simp only [List.length_drop, List.length_take]; rfl)) ?_
      with_reducible refine (teletex_Read.calls kj15 _ _ y734 t737 t738 t739 _ ?side1 ?side2 A34.out).mono ?_
      (case side1 => repeat (first | exact (Kd.R_reads' HO736.out).2.2 | (with_reducible refine Kd.C_alloc ?_ _) | (with_reducible refine Kd.C_drewN ?_ _) | (with_reducible refine Kd.C_drew ?_)))
      (case side2 => exact (Kd.R_reads' HO736.out).2.1)
      rintro e w91 ⟨v740, rfl, ho0, hb⟩
      refine ⟨_, rfl, ?_⟩
      have n0_ := Aside0.mk (Kd.R_below (by (with_reducible repeat (first | apply Kd.R_alloc | apply Kd.R_drewN | apply Kd.R_drew)); exact HO_5.out) hb)
      have n1_ := Aside0.mk (Kd.R_elder' (by (with_reducible repeat (first | apply Kd.R_alloc | apply Kd.R_drewN | apply Kd.R_drew)); exact HO_8.out) (Kd.R_base ho0) hb)
      have n2_ := Aside0.mk (Kd.R_below (by (with_reducible repeat (first | apply Kd.R_alloc | apply Kd.R_drewN | apply Kd.R_drew)); exact HO733.out) hb)
      have n3_ := Aside0.mk (Kd.R_below (by (with_reducible repeat (first | apply Kd.R_alloc | apply Kd.R_drewN | apply Kd.R_drew)); exact HO736.out) hb)
      have n4_ := Aside0.mk (Kd.R_lower (Kd.R_new' ho0 (Kd.R_lt (by (with_reducible repeat (first | apply Kd.R_alloc | apply Kd.R_drewN | apply Kd.R_drew)); exact HO_8.out))) (below_size (by repeat (first | (with_reducible first | exact HB.out | apply below_alloc | apply pw_below_drewN | apply below_drew1 | refine below_set ?_ GE726.out) | exact HB.out))))
      have n5_ := Aside0.mk (blk_below (g := gb726) (o := .cells #[.int .i64 ((rd_T38 x5_1 (ji25)).f0), .int .i64 ((rd_T38 x5_1 (ji25)).f1), .int .i64 ((rd_T38 x5_1 (ji25)).f2)] 38 (0, 0)) (by (with_reducible repeat (first | refine blk_drewN ?_ _ | refine blk_drew ?_ | refine blk_alloc ?_ _)); exact BK726.out) hb)
      have n6_ := Aside0.mk (below_step (by repeat (first | (with_reducible first | exact HB.out | apply below_alloc | apply pw_below_drewN | apply below_drew1 | refine below_set ?_ GE726.out) | exact HB.out)) hb)
      clear HO_5
      clear HO_8
      clear HO733
      clear HO736
      clear BK726
      clear HB
      have HO_5 := n0_
      have HO_8 := n1_
      have HO733 := n2_
      have HO736 := n3_
      have HO741 := n4_
      have BK726 := n5_
      have HB := n6_
      clear n0_ n1_ n2_ n3_ n4_ n5_ n6_
      (try clear hb)
      (try clear hb2)
      (try clear hk)
      (try clear hi)
      (try clear ho0)
      refine hK.out _ _ ⟨(blk_cell BK726.out 0).trans rfl, (blk_cell BK726.out 1).trans rfl, (blk_cell BK726.out 2).trans rfl⟩ (fun hHeld => ?_)
      clear hK K
      refine norm_ (a' := ?_) ?_ ?_
      rotate_left
      ·show Act.put _ (some 72) _ = _
       simp only [Act.put, List.setIfInBounds_toArray, List.set_cons_zero, List.set_cons_succ, i64_w, i32_w]
       rfl
      refine pure_ (i := 9) (N := some 63) (v := ?_) (a' := ?_) qm_M19_11 rfl rfl (any_of HT_.out (by kernel_rfl)) (fun _ _ _ h => h) (Or.inl ⟨by rfl, ?_⟩) ?_ ?_
      rotate_left
      ·intro w'
       go_simp
       with_reducible rfl
      rotate_left
      ·simp only [Act.put, List.setIfInBounds_toArray, List.set_cons_zero, List.set_cons_succ, i64_w, i32_w]
       rfl
      refine pure_ (i := 10) (N := some 73) (v := ?_) (a' := ?_) qm_M19_12 rfl rfl (any_of HT_.out (by kernel_rfl)) (fun _ _ _ h => h) (Or.inl ⟨by rfl, ?_⟩) ?_ ?_
      rotate_left
      ·intro w'
       go_simp
       with_reducible rfl
      rotate_left
      ·simp only [Act.put, List.setIfInBounds_toArray, List.set_cons_zero, List.set_cons_succ, i64_w, i32_w]
       rfl
      refine pure_ (i := 11) (N := some 74) (v := ?_) (a' := ?_) qm_M19_13 rfl rfl (any_of HT_.out (by kernel_rfl)) (fun _ _ _ h => h) (Or.inl ⟨by rfl, ?_⟩) ?_ ?_
      rotate_left
      ·intro w'
       go_simp
       with_reducible rfl
      rotate_left
      ·simp only [Act.put, List.setIfInBounds_toArray, List.set_cons_zero, List.set_cons_succ, i64_w, i32_w]
       rfl
      refine pure_ (i := 12) (N := some 75) (v := ?_) (a' := ?_) qm_M19_14 rfl rfl (any_of HT_.out (by kernel_rfl)) (fun _ _ _ h => h) (Or.inl ⟨by rfl, ?_⟩) ?_ ?_
      rotate_left
      ·intro w'
       go_simp
       with_reducible rfl
      rotate_left
      ·simp only [Act.put, List.setIfInBounds_toArray, List.set_cons_zero, List.set_cons_succ, i64_w, i32_w]
       rfl
      refine pure_ (i := 13) (N := some 11) (v := ?_) (a' := ?_) qm_M19_15 rfl rfl (any_of HT_.out (by kernel_rfl)) (fun _ _ _ h => h) (Or.inl ⟨by rfl, ?_⟩) ?_ ?_
      rotate_left
      ·intro w'
       go_simp
       with_reducible rfl
      rotate_left
      ·simp only [Act.put, List.setIfInBounds_toArray, List.set_cons_zero, List.set_cons_succ, i64_w, i32_w]
       rfl
      refine pure_ (i := 14) (N := some 12) (v := ?_) (a' := ?_) qm_M19_16 rfl rfl (any_of HT_.out (by kernel_rfl)) (fun _ _ _ h => h) (Or.inl ⟨by rfl, ?_⟩) ?_ ?_
      rotate_left
      ·intro w'
       go_simp
       with_reducible rfl
      rotate_left
      ·simp only [Act.put, List.setIfInBounds_toArray, List.set_cons_zero, List.set_cons_succ, i64_w, i32_w]
       rfl
      refine pure_ (i := 15) (N := some 13) (v := ?_) (a' := ?_) qm_M19_17 rfl rfl (any_of HT_.out (by kernel_rfl)) (fun _ _ _ h => h) (Or.inl ⟨by rfl, ?_⟩) ?_ ?_
      rotate_left
      ·intro w'
       go_simp
       with_reducible rfl
      rotate_left
      ·simp only [Act.put, List.setIfInBounds_toArray, List.set_cons_zero, List.set_cons_succ, i64_w, i32_w]
       rfl
      refine done_ (done_of HT_.out (by kernel_rfl)) ?_
      try go_wp2
      go_ret
      exact ⟨by first | rfl | (simp [errW_none, errW_some] <;> rfl) | (simp only [← hji25, ← hji29]; first | rfl | (simp [errW_none, errW_some] <;> rfl)) | (simp [*, errW_none, errW_some] <;> rfl), by repeat (first | (with_reducible first | exact HB.out | apply below_alloc | apply pw_below_drewN | apply below_drew1 | refine below_set ?_ GE726.out) | exact HB.out)⟩
     rw [if_pos c35] at H
     have c35b0 : (t739 == 0) = true := beq_iff_eq.mpr c35
     have c35b1 : (t739 != 0) = false := bne_eq_false_iff_eq.mpr c35
     clear c35
     obtain ⟨y742, hy742⟩ : ∃ y_ : List Int, y_ = (([(rd_T38 x5_1 (ji25)).f2] : List Int)) := ⟨_, rfl⟩
     replace H : ((sobriquetkeep_Ints.f kj15 t737 y742).bind fun t745 => (if t745 = true then ((sobriquetlaw18_wakes.f).bind fun t746 => (some t746)) else (some false))) = some r := by first | (rw [hy742]; with_reducible exact H) | (have H2_ := (Option.bind_some _ _).symm.trans H; rw [hy742]; with_reducible exact H2_) | (have H2_ := (Option.bind_some _ _).symm.trans H; with_reducible exact H2_) | with_reducible exact H | (rw [hy742]; exact H) | exact H
     have Ny742 := Aside0.mk hy742
     clear hy742
     replace H := Option.bind_eq_some_iff.mp H
     obtain ⟨t745, A360, H⟩ := H
     replace H : (if t745 = true then ((sobriquetlaw18_wakes.f).bind fun t746 => (some t746)) else (some false)) = some r := H
     have A36 := Aside0.mk A360
     clear A360
     by_cases c37 : t745 = true
     rotate_left
     ·replace c37 := Bool.eq_false_iff.mpr c37
      subst c37
      have H1 : (some false) = some r := by rw [if_neg (show ¬ (false = true) by decide)] at H; exact H
      clear H
      have H := H1
      clear H1
      obtain rfl := Option.some.inj H
      obtain ⟨Ao59, co59, eo59⟩ := Kd.R_slice HO_5.out
      subst eo59
      have p725 : 0 ≤ ((ji25) : Int) := of_decide_eq_true (by first | (with_reducible assumption) | assumption)
      have q725 : (ji25) < (x5_1.length : Int) := of_decide_eq_true (by first | (with_reducible assumption) | assumption)
      obtain ⟨ad725, e725, hx725_0, hx725_1, hx725_2⟩ := at_T38 (Kd.R_reads' HO_5.out).2.2 (ji25) p725 q725
      cases e725
      replace p725 := eq_true p725
      replace q725 := eq_true q725
      try go_wp2_with (first | ((with_reducible refine gate_dst (N := 9) rfl ?_); (try (refine gate_guard (by rfl) ?_; dsimp only)); refine box_event ?hg (N := 9) ?hd (cs := #[.int .i64 0, .int .i64 0, .int .i64 0]) (t := 38) ?hr ?_; (case hd => rfl); (case hg => rfl); (case hr => first | (go_simp; done) | (go_simp; rfl)); intro gb726 hg w60 hbox hb; have n0_ := Aside0.mk (Kd.R_below (Kd.R_elderB (by (with_reducible repeat (first | apply Kd.R_alloc | apply Kd.R_drewN | apply Kd.R_drew)); exact HO_5.out) gb726 (Nat.le_of_eq hg.symm)) hb); have n1_ := Aside0.mk (Kd.R_below (by (with_reducible repeat (first | apply Kd.R_alloc | apply Kd.R_drewN | apply Kd.R_drew)); exact HO_8.out) hb); have n2_ := Aside0.mk (below_step (by repeat (first | (with_reducible first | exact HB.out | apply below_alloc | apply pw_below_drewN | apply below_drew1) | exact HB.out)) hb); have n3_ := Aside0.mk (hbox); have n4_ := Aside0.mk ((by rw [hg]; exact (below_size (by repeat (first | (with_reducible first | exact HB.out | apply below_alloc | apply pw_below_drewN | apply below_drew1) | exact HB.out))) : w.heap.size ≤ gb726)); have n5_ := Aside0.mk ((by rw [hg]; exact (below_size (by repeat (first | (with_reducible first | exact HB.out | apply below_alloc | apply pw_below_drewN | apply below_drew1) | exact HB.out))) : w.heap.size ≤ gb726)); clear HO_5; clear HO_8; clear HB; have HO_5 := n0_; have HO_8 := n1_; have HB := n2_; have BK726 := n3_; have GW726 := n4_; have GE726 := n5_; clear n0_ n1_ n2_ n3_ n4_ n5_; clear hb hbox hg; have hcz61_0 : w60.cell? ⟨gb726, 0, none⟩ = some (.int .i64 0) := (blk_cell BK726.out 0).trans rfl; have hcz61_1 : w60.cell? ⟨gb726, 1, none⟩ = some (.int .i64 0) := (blk_cell BK726.out 1).trans rfl; have hcz61_2 : w60.cell? ⟨gb726, 2, none⟩ = some (.int .i64 0) := (blk_cell BK726.out 2).trans rfl; have hfz61_0 := blk_frozen BK726.out 0; have hfz61_1 := blk_frozen BK726.out 1; have hfz61_2 := blk_frozen BK726.out 2; obtain ⟨Ao62, co62, eo62⟩ := Kd.R_slice HO_8.out; subst eo62; have p727 : 0 ≤ ((ji29) : Int) := of_decide_eq_true (by first | (with_reducible assumption) | assumption); have q727 : (ji29) < (t722.length : Int) := of_decide_eq_true (by first | (with_reducible assumption) | assumption); obtain ⟨ad727, e727, hx727_0⟩ := Kd.at_int (Kd.R_reads' HO_8.out).2.2 (ji29) p727 q727; cases e727; have hn727_0 : ad727.block ≠ gb726 := Kd.own_blk (Kd.R_ne HO_8.out BK726.out (by decide)); have hn727_1 : ad727.block ≠ gb726 := Kd.own_blk (Kd.R_ne HO_8.out BK726.out (by decide)); have hn727_2 : ad727.block ≠ gb726 := Kd.own_blk (Kd.R_ne HO_8.out BK726.out (by decide)); replace hx727_0 := (cell_far (p := ⟨gb726, 0, none⟩) (by first | (rw [add_block]; exact hn727_0) | (show (Addr.add _ _).block ≠ _; rw [add_block]; exact hn727_0) | exact hn727_0) (.int .i64 ((rd_T38 x5_1 (ji25)).f0))).trans hx727_0; replace hx727_0 := (cell_far (p := ⟨gb726, 1, none⟩) (by first | (rw [add_block]; exact hn727_1) | (show (Addr.add _ _).block ≠ _; rw [add_block]; exact hn727_1) | exact hn727_1) (.int .i64 ((rd_T38 x5_1 (ji25)).f1))).trans hx727_0; replace hx727_0 := (cell_far (p := ⟨gb726, 2, none⟩) (by first | (rw [add_block]; exact hn727_2) | (show (Addr.add _ _).block ≠ _; rw [add_block]; exact hn727_2) | exact hn727_2) (.int .i64 ((rd_T38 x5_1 (ji25)).f2))).trans hx727_0; clear hn727_0; clear hn727_1; clear hn727_2; replace p727 := eq_true p727; replace q727 := eq_true q727))
      have n0_ : Aside0 (Kd.R k38 38 (((w60.setCell ⟨gb726, 0, none⟩ (.int .i64 ((rd_T38 x5_1 (ji25)).f0))).setCell ⟨gb726, 1, none⟩ (.int .i64 ((rd_T38 x5_1 (ji25)).f1))).setCell ⟨gb726, 2, none⟩ (.int .i64 ((rd_T38 x5_1 (ji25)).f2))) w.heap.size (fun k_ => k_ ≠ gb726) (.slice (some ad725) x5_1.length co59) x5_1) := ⟨by (with_reducible repeat (first | apply Kd.R_alloc | apply Kd.R_drewN | apply Kd.R_drew)); exact Kd.R_mono (Kd.R_far (p := ⟨gb726, 2, none⟩) (Kd.R_far (p := ⟨gb726, 1, none⟩) (Kd.R_far (p := ⟨gb726, 0, none⟩) (Kd.R_mono HO_5.out (fun k_ hk => (⟨hk, hk.2⟩ : _ ∧ k_ ≠ gb726))) (fun _ hk => hk.2) (.int .i64 ((rd_T38 x5_1 (ji25)).f0))) (fun _ hk => hk.2) (.int .i64 ((rd_T38 x5_1 (ji25)).f1))) (fun _ hk => hk.2) (.int .i64 ((rd_T38 x5_1 (ji25)).f2))) (fun _ hk => hk.1.2)⟩
      have n1_ : Aside0 (Kd.R (Kd.int .i64) 3 (((w60.setCell ⟨gb726, 0, none⟩ (.int .i64 ((rd_T38 x5_1 (ji25)).f0))).setCell ⟨gb726, 1, none⟩ (.int .i64 ((rd_T38 x5_1 (ji25)).f1))).setCell ⟨gb726, 2, none⟩ (.int .i64 ((rd_T38 x5_1 (ji25)).f2))) w.heap.size (fun _ => True) (.slice (some ad727) t722.length co62) t722) := ⟨by (with_reducible repeat (first | apply Kd.R_alloc | apply Kd.R_drewN | apply Kd.R_drew)); exact Kd.R_mono (Kd.R_far (p := ⟨gb726, 2, none⟩) (Kd.R_far (p := ⟨gb726, 1, none⟩) (Kd.R_far (p := ⟨gb726, 0, none⟩) (Kd.R_types HO_8.out BK726.out (by decide)) (fun _ hk => hk.2) (.int .i64 ((rd_T38 x5_1 (ji25)).f0))) (fun _ hk => hk.2) (.int .i64 ((rd_T38 x5_1 (ji25)).f1))) (fun _ hk => hk.2) (.int .i64 ((rd_T38 x5_1 (ji25)).f2))) (fun _ hk => trivial)⟩
      have n2_ : Aside0 ((((w60.setCell ⟨gb726, 0, none⟩ (.int .i64 ((rd_T38 x5_1 (ji25)).f0))).setCell ⟨gb726, 1, none⟩ (.int .i64 ((rd_T38 x5_1 (ji25)).f1))).setCell ⟨gb726, 2, none⟩ (.int .i64 ((rd_T38 x5_1 (ji25)).f2))).heap[gb726]? = some (.cells #[.int .i64 ((rd_T38 x5_1 (ji25)).f0), .int .i64 ((rd_T38 x5_1 (ji25)).f1), .int .i64 ((rd_T38 x5_1 (ji25)).f2)] 38 (0, 0))) := ⟨by (with_reducible repeat (first | refine blk_drewN ?_ _ | refine blk_drew ?_ | refine blk_alloc ?_ _)); refine blk_put (cs := #[.int .i64 ((rd_T38 x5_1 (ji25)).f0), .int .i64 ((rd_T38 x5_1 (ji25)).f1), .int .i64 0]) ?_ 2 _ rfl; (with_reducible repeat (first | refine blk_drewN ?_ _ | refine blk_drew ?_ | refine blk_alloc ?_ _)); refine blk_put (cs := #[.int .i64 ((rd_T38 x5_1 (ji25)).f0), .int .i64 0, .int .i64 0]) ?_ 1 _ rfl; (with_reducible repeat (first | refine blk_drewN ?_ _ | refine blk_drew ?_ | refine blk_alloc ?_ _)); refine blk_put (cs := #[.int .i64 0, .int .i64 0, .int .i64 0]) ?_ 0 _ rfl; (with_reducible repeat (first | refine blk_drewN ?_ _ | refine blk_drew ?_ | refine blk_alloc ?_ _)); exact BK726.out⟩
      have n3_ : Aside0 (Below w.heap.size w (((w60.setCell ⟨gb726, 0, none⟩ (.int .i64 ((rd_T38 x5_1 (ji25)).f0))).setCell ⟨gb726, 1, none⟩ (.int .i64 ((rd_T38 x5_1 (ji25)).f1))).setCell ⟨gb726, 2, none⟩ (.int .i64 ((rd_T38 x5_1 (ji25)).f2)))) := ⟨by repeat (first | (with_reducible first | exact HB.out | apply below_alloc | apply pw_below_drewN | apply below_drew1 | refine below_set ?_ GE726.out) | exact HB.out)⟩
      (try clear HO_5)
      (try clear HO_8)
      (try clear BK726)
      (try clear HB)
      generalize (((w60.setCell ⟨gb726, 0, none⟩ (.int .i64 ((rd_T38 x5_1 (ji25)).f0))).setCell ⟨gb726, 1, none⟩ (.int .i64 ((rd_T38 x5_1 (ji25)).f1))).setCell ⟨gb726, 2, none⟩ (.int .i64 ((rd_T38 x5_1 (ji25)).f2))) = w63 at n0_ n1_ n2_ n3_ ⊢
      have HO_5 := n0_
      have HO_8 := n1_
      have BK726 := n2_
      have HB := n3_
      clear n0_ n1_ n2_ n3_
      have n0_ := Aside0.mk (Kd.R_drew HO_5.out)
      have n1_ := Aside0.mk (Kd.R_drew HO_8.out)
      have n2_ := Aside0.mk (blk_drew BK726.out)
      have n3_ := Aside0.mk (below_drew1 HB.out)
      clear HO_5
      clear HO_8
      clear BK726
      clear HB
      have HO_5 := n0_
      have HO_8 := n1_
      have BK726 := n2_
      have HB := n3_
      clear n0_ n1_ n2_ n3_
      refine start_ (n := 16) (S := fun w' => w'.cell? ⟨gb726, 0, none⟩ = some (.int .i64 ((rd_T38 x5_1 (ji25)).f0)) ∧ w'.cell? ⟨gb726, 1, none⟩ = some (.int .i64 ((rd_T38 x5_1 (ji25)).f1)) ∧ w'.cell? ⟨gb726, 2, none⟩ = some (.int .i64 ((rd_T38 x5_1 (ji25)).f2))) (ds := []) qm_M19_0 (by kernel_rfl) rfl rfl ⟨(blk_cell BK726.out 0).trans rfl, (blk_cell BK726.out 1).trans rfl, (blk_cell BK726.out 2).trans rfl⟩ (fun hHeld => ?_); refine with_tabW sobriquetlaw18_TeletexDirect.tab13 sobriquetlaw18_TeletexDirect.bits13 (fun HT_ HW_ => ?_)
      generalize w63.drew = w64 at HO_5 HO_8 BK726 HB hHeld ⊢
      refine pure_ (i := 0) (N := some 64) (v := ?_) (a' := ?_) qm_M19_1 rfl rfl (any_of HT_.out (by kernel_rfl)) (fun _ _ _ h => h) (Or.inl ⟨by rfl, ?_⟩) ?_ ?_
      rotate_left
      ·intro w'
       go_simp
       with_reducible rfl
      rotate_left
      ·simp only [Act.put, List.setIfInBounds_toArray, List.set_cons_zero, List.set_cons_succ, i64_w, i32_w]
       rfl
      refine pure_ (i := 2) (N := some 66) (v := ?_) (a' := ?_) qm_M19_2 rfl rfl (any_of HT_.out (by kernel_rfl)) (fun _ _ _ h => h) (Or.inl ⟨by rfl, ?_⟩) ?_ ?_
      rotate_left
      ·intro w'
       go_simp
       with_reducible rfl
      rotate_left
      ·simp only [Act.put, List.setIfInBounds_toArray, List.set_cons_zero, List.set_cons_succ, i64_w, i32_w]
       rfl
      refine take_ (i := 3) (N := some 67) (v := ?_) (a' := ?_) qm_M19_3 rfl rfl (take_ofW HT_.out HW_.out (by kernel_rfl)) (fun _ _ _ h => h) (Or.inl ⟨by rfl, ?_⟩) hHeld ?_ ?_
      rotate_left
      ·rintro w' ⟨s0, s1, s2⟩
       go_simp
       with_reducible rfl
      rotate_left
      ·simp only [Act.put, List.setIfInBounds_toArray, List.set_cons_zero, List.set_cons_succ, i64_w, i32_w]
       rfl
      refine pure_ (i := 4) (N := some 68) (v := ?_) (a' := ?_) qm_M19_4 rfl rfl (any_of HT_.out (by kernel_rfl)) (fun _ _ _ h => h) (Or.inl ⟨by rfl, ?_⟩) ?_ ?_
      rotate_left
      ·intro w'
       go_simp
       with_reducible rfl
      rotate_left
      ·simp only [Act.put, List.setIfInBounds_toArray, List.set_cons_zero, List.set_cons_succ, i64_w, i32_w]
       rfl
      refine pure_ (i := 5) (N := some 69) (v := ?_) (a' := ?_) qm_M19_5 rfl rfl (any_of HT_.out (by kernel_rfl)) (fun _ _ _ h => h) (Or.inl ⟨by rfl, ?_⟩) ?_ ?_
      rotate_left
      ·intro w'
       go_simp
       with_reducible rfl
      rotate_left
      ·simp only [Act.put, List.setIfInBounds_toArray, List.set_cons_zero, List.set_cons_succ, i64_w, i32_w]
       rfl
      refine join_ (σ := Value × Value) 9 qm_M19_6 (fun s_ => [(65, s_.1), (70, s_.2)]) (fun s_ w' => (w'.cell? ⟨gb726, 0, none⟩ = some (.int .i64 ((rd_T38 x5_1 (ji25)).f0)) ∧ w'.cell? ⟨gb726, 1, none⟩ = some (.int .i64 ((rd_T38 x5_1 (ji25)).f1)) ∧ w'.cell? ⟨gb726, 2, none⟩ = some (.int .i64 ((rd_T38 x5_1 (ji25)).f2))) ∧ (Kd.R (Kd.int .u8) 5 w' w.heap.size (fun k_ => some k_ ≠ (s_.2 : Value).ownBlock) s_.1 t728) ∧ (Kd.R (Kd.int .u8) 5 w' w.heap.size (fun k_ => some k_ ≠ (s_.1 : Value).ownBlock) s_.2 y731) ∧ (Kd.R k38 38 w' w.heap.size (fun k_ => k_ ≠ gb726) (.slice (some ad725) x5_1.length co59) x5_1) ∧ (Kd.R (Kd.int .i64) 3 w' w.heap.size (fun _ => True) (.slice (some ad727) t722.length co62) t722) ∧ (w'.heap[gb726]? = some (.cells #[.int .i64 ((rd_T38 x5_1 (ji25)).f0), .int .i64 ((rd_T38 x5_1 (ji25)).f1), .int .i64 ((rd_T38 x5_1 (ji25)).f2)] 38 (0, 0))) ∧ (Below w.heap.size w w')) ?_ ?_
      rotate_left
      ·intro hCont
       refine two_ (i := 1) (j := 6) (Ni := some 65) (Nj := some 70) qm_M19_7 qm_M19_8 rfl rfl rfl rfl (two_of HT_.out (by kernel_rfl)) (by decide) (by decide) (fun K hK => ?_) (fun K hK => ?_)
       ·skip
        refine goes_ Try.func17 (by kernel_rfl) rfl #[.int .i64 0, .int .i64 (rd t722 (ji29))] (by rfl) rfl rfl (by (try simp only [List.map_toArray, List.map_cons, List.map_nil]); first | done | (simp only [hji29]; rfl) | rfl | (simp only [List.length_drop, List.length_take]; rfl)) ?_
        with_reducible refine (sobriquetref13_Escape.calls 0 (rd t722 (ji29)) t728 _ A32.out).mono ?_
        rintro e w65 ⟨v729, rfl, ho0, hb⟩
        refine ⟨_, rfl, ?_⟩
        have n0_ := Aside0.mk (Kd.R_below (by (with_reducible repeat (first | apply Kd.R_alloc | apply Kd.R_drewN | apply Kd.R_drew)); exact HO_5.out) hb)
        have n1_ := Aside0.mk (Kd.R_below (by (with_reducible repeat (first | apply Kd.R_alloc | apply Kd.R_drewN | apply Kd.R_drew)); exact HO_8.out) hb)
        have n2_ := Aside0.mk (Kd.R_lower ho0 (below_size (by repeat (first | (with_reducible first | exact HB.out | apply below_alloc | apply pw_below_drewN | apply below_drew1 | refine below_set ?_ GE726.out) | exact HB.out))))
        have n3_ := Aside0.mk (blk_below (g := gb726) (o := .cells #[.int .i64 ((rd_T38 x5_1 (ji25)).f0), .int .i64 ((rd_T38 x5_1 (ji25)).f1), .int .i64 ((rd_T38 x5_1 (ji25)).f2)] 38 (0, 0)) (by (with_reducible repeat (first | refine blk_drewN ?_ _ | refine blk_drew ?_ | refine blk_alloc ?_ _)); exact BK726.out) hb)
        have n4_ := Aside0.mk (below_step (by repeat (first | (with_reducible first | exact HB.out | apply below_alloc | apply pw_below_drewN | apply below_drew1 | refine below_set ?_ GE726.out) | exact HB.out)) hb)
        clear HO_5
        clear HO_8
        clear BK726
        clear HB
        have HO_5 := n0_
        have HO_8 := n1_
        have HO730 := n2_
        have BK726 := n3_
        have HB := n4_
        clear n0_ n1_ n2_ n3_ n4_
        (try clear hb)
        (try clear hb2)
        (try clear hk)
        (try clear hi)
        (try clear ho0)
        refine hK.out _ _ ⟨(blk_cell BK726.out 0).trans rfl, (blk_cell BK726.out 1).trans rfl, (blk_cell BK726.out 2).trans rfl⟩ (fun hHeld => ?_)
        clear hK K
        refine norm_ (a' := ?_) ?_ ?_
        rotate_left
        ·show Act.put _ (some 65) _ = _
         simp only [Act.put, List.setIfInBounds_toArray, List.set_cons_zero, List.set_cons_succ, i64_w, i32_w]
         rfl
        refine one_ (i := 6) (N := some 70) qm_M19_6 rfl rfl (one_of HT_.out (by kernel_rfl)) (by decide) (fun K hK => ?_)
        refine Kd.R_lit_step (Kd.int .u8) _ 5 ?hg (N := 70) ?hd (xs := ([(wrap64 (((rd_T38 x5_1 (ji25)).f1) + 128)) % 256] : List Int)) (inner := [.int .u8 ((wrap64 (((rd_T38 x5_1 (ji25)).f1) + 128)) % 256)]) (ok := fun _ => True) (okp := fun _ => True) ?hr ?hp (fun _ hk => hk) trivial (Below.refl _ _) (Nat.le_refl _) (by simp) ?_; (case hd => rfl); (case hg => rfl); (case hr => first | (go_simp; done) | (go_simp; rfl)); (case hp => exact (Reps.one (show Kd.M (Kd.int .u8) _ _ _ ((wrap64 (((rd_T38 x5_1 (ji25)).f1) + 128)) % 256) [.int .u8 ((wrap64 (((rd_T38 x5_1 (ji25)).f1) + 128)) % 256)] from rfl) (Reps.none _ _)))
        intro v732 w66 ho67 hb hg_ hnew_
        clear hg_ hnew_
        (first | rw [← Ny731.out] at ho67 | (simp only [Int.reduceToNat] at ho67; rw [← Ny731.out] at ho67))
        have n0_ := Aside0.mk (Kd.R_below (by (with_reducible repeat (first | apply Kd.R_alloc | apply Kd.R_drewN | apply Kd.R_drew)); exact HO_5.out) hb)
        have n1_ := Aside0.mk (Kd.R_below (by (with_reducible repeat (first | apply Kd.R_alloc | apply Kd.R_drewN | apply Kd.R_drew)); exact HO_8.out) hb)
        have n2_ := Aside0.mk (Kd.R_elder' (by (with_reducible repeat (first | apply Kd.R_alloc | apply Kd.R_drewN | apply Kd.R_drew)); exact HO730.out) (Kd.R_base ho67) hb)
        have n3_ := Aside0.mk (Kd.R_lower (Kd.R_new' ho67 (Kd.R_lt (by (with_reducible repeat (first | apply Kd.R_alloc | apply Kd.R_drewN | apply Kd.R_drew)); exact HO730.out))) (below_size (by repeat (first | (with_reducible first | exact HB.out | apply below_alloc | apply pw_below_drewN | apply below_drew1 | refine below_set ?_ GE726.out) | exact HB.out))))
        have n4_ := Aside0.mk (blk_below (g := gb726) (o := .cells #[.int .i64 ((rd_T38 x5_1 (ji25)).f0), .int .i64 ((rd_T38 x5_1 (ji25)).f1), .int .i64 ((rd_T38 x5_1 (ji25)).f2)] 38 (0, 0)) (by (with_reducible repeat (first | refine blk_drewN ?_ _ | refine blk_drew ?_ | refine blk_alloc ?_ _)); exact BK726.out) hb)
        have n5_ := Aside0.mk (below_step (by repeat (first | (with_reducible first | exact HB.out | apply below_alloc | apply pw_below_drewN | apply below_drew1 | refine below_set ?_ GE726.out) | exact HB.out)) hb)
        clear HO_5
        clear HO_8
        clear HO730
        clear BK726
        clear HB
        have HO_5 := n0_
        have HO_8 := n1_
        have HO730 := n2_
        have HO733 := n3_
        have BK726 := n4_
        have HB := n5_
        clear n0_ n1_ n2_ n3_ n4_ n5_
        clear hb ho67
        refine hK.out _ _ ⟨(blk_cell BK726.out 0).trans rfl, (blk_cell BK726.out 1).trans rfl, (blk_cell BK726.out 2).trans rfl⟩ (fun hHeld => ?_)
        clear hK K
        refine norm_ (a' := ?_) ?_ ?_
        rotate_left
        ·show Act.put _ (some 70) _ = _
         simp only [Act.put, List.setIfInBounds_toArray, List.set_cons_zero, List.set_cons_succ, i64_w, i32_w]
         rfl
        exact norm_ (by simp only [putAll, Act.put, List.setIfInBounds_toArray, List.set_cons_zero, List.set_cons_succ]) (hCont (v729, v732) _ ⟨hHeld, (by (with_reducible repeat (first | apply Kd.R_alloc | apply Kd.R_drewN | apply Kd.R_drew)); exact Kd.R_mono HO730.out (fun _ hk => hk.2)), (by (with_reducible repeat (first | apply Kd.R_alloc | apply Kd.R_drewN | apply Kd.R_drew)); exact Kd.R_mono HO733.out (fun _ hk => hk.2)), (by (with_reducible repeat (first | apply Kd.R_alloc | apply Kd.R_drewN | apply Kd.R_drew)); exact HO_5.out), (by (with_reducible repeat (first | apply Kd.R_alloc | apply Kd.R_drewN | apply Kd.R_drew)); exact HO_8.out), (by (with_reducible repeat (first | refine blk_drewN ?_ _ | refine blk_drew ?_ | refine blk_alloc ?_ _)); exact BK726.out), (by repeat (first | (with_reducible first | exact HB.out | apply below_alloc | apply pw_below_drewN | apply below_drew1 | refine below_set ?_ GE726.out) | exact HB.out))⟩)
       ·skip
        refine Kd.R_lit_step (Kd.int .u8) _ 5 ?hg (N := 70) ?hd (xs := ([(wrap64 (((rd_T38 x5_1 (ji25)).f1) + 128)) % 256] : List Int)) (inner := [.int .u8 ((wrap64 (((rd_T38 x5_1 (ji25)).f1) + 128)) % 256)]) (ok := fun _ => True) (okp := fun _ => True) ?hr ?hp (fun _ hk => hk) trivial (Below.refl _ _) (Nat.le_refl _) (by simp) ?_; (case hd => rfl); (case hg => rfl); (case hr => first | (go_simp; done) | (go_simp; rfl)); (case hp => exact (Reps.one (show Kd.M (Kd.int .u8) _ _ _ ((wrap64 (((rd_T38 x5_1 (ji25)).f1) + 128)) % 256) [.int .u8 ((wrap64 (((rd_T38 x5_1 (ji25)).f1) + 128)) % 256)] from rfl) (Reps.none _ _)))
        intro v732 w65 ho66 hb hg_ hnew_
        clear hg_ hnew_
        (first | rw [← Ny731.out] at ho66 | (simp only [Int.reduceToNat] at ho66; rw [← Ny731.out] at ho66))
        have n0_ := Aside0.mk (Kd.R_below (by (with_reducible repeat (first | apply Kd.R_alloc | apply Kd.R_drewN | apply Kd.R_drew)); exact HO_5.out) hb)
        have n1_ := Aside0.mk (Kd.R_below (by (with_reducible repeat (first | apply Kd.R_alloc | apply Kd.R_drewN | apply Kd.R_drew)); exact HO_8.out) hb)
        have n2_ := Aside0.mk (Kd.R_lower ho66 (below_size (by repeat (first | (with_reducible first | exact HB.out | apply below_alloc | apply pw_below_drewN | apply below_drew1 | refine below_set ?_ GE726.out) | exact HB.out))))
        have n3_ := Aside0.mk (blk_below (g := gb726) (o := .cells #[.int .i64 ((rd_T38 x5_1 (ji25)).f0), .int .i64 ((rd_T38 x5_1 (ji25)).f1), .int .i64 ((rd_T38 x5_1 (ji25)).f2)] 38 (0, 0)) (by (with_reducible repeat (first | refine blk_drewN ?_ _ | refine blk_drew ?_ | refine blk_alloc ?_ _)); exact BK726.out) hb)
        have n4_ := Aside0.mk (below_step (by repeat (first | (with_reducible first | exact HB.out | apply below_alloc | apply pw_below_drewN | apply below_drew1 | refine below_set ?_ GE726.out) | exact HB.out)) hb)
        clear HO_5
        clear HO_8
        clear BK726
        clear HB
        have HO_5 := n0_
        have HO_8 := n1_
        have HO733 := n2_
        have BK726 := n3_
        have HB := n4_
        clear n0_ n1_ n2_ n3_ n4_
        clear hb ho66
        refine hK.out _ _ ⟨(blk_cell BK726.out 0).trans rfl, (blk_cell BK726.out 1).trans rfl, (blk_cell BK726.out 2).trans rfl⟩ (fun hHeld => ?_)
        clear hK K
        refine norm_ (a' := ?_) ?_ ?_
        rotate_left
        ·show Act.put _ (some 70) _ = _
         simp only [Act.put, List.setIfInBounds_toArray, List.set_cons_zero, List.set_cons_succ, i64_w, i32_w]
         rfl
        refine one_ (i := 1) (N := some 65) qm_M19_6 rfl rfl (one_of HT_.out (by kernel_rfl)) (by decide) (fun K hK => ?_)
        refine goes_ Try.func17 (by kernel_rfl) rfl #[.int .i64 0, .int .i64 (rd t722 (ji29))] (by rfl) rfl rfl (by (try simp only [List.map_toArray, List.map_cons, List.map_nil]); first | done | (simp only [hji29]; rfl) | rfl | (simp only [List.length_drop, List.length_take]; rfl)) ?_
        with_reducible refine (sobriquetref13_Escape.calls 0 (rd t722 (ji29)) t728 _ A32.out).mono ?_
        rintro e w67 ⟨v729, rfl, ho0, hb⟩
        refine ⟨_, rfl, ?_⟩
        have n0_ := Aside0.mk (Kd.R_below (by (with_reducible repeat (first | apply Kd.R_alloc | apply Kd.R_drewN | apply Kd.R_drew)); exact HO_5.out) hb)
        have n1_ := Aside0.mk (Kd.R_below (by (with_reducible repeat (first | apply Kd.R_alloc | apply Kd.R_drewN | apply Kd.R_drew)); exact HO_8.out) hb)
        have n2_ := Aside0.mk (Kd.R_elder' (by (with_reducible repeat (first | apply Kd.R_alloc | apply Kd.R_drewN | apply Kd.R_drew)); exact HO733.out) (Kd.R_base ho0) hb)
        have n3_ := Aside0.mk (Kd.R_lower (Kd.R_new' ho0 (Kd.R_lt (by (with_reducible repeat (first | apply Kd.R_alloc | apply Kd.R_drewN | apply Kd.R_drew)); exact HO733.out))) (below_size (by repeat (first | (with_reducible first | exact HB.out | apply below_alloc | apply pw_below_drewN | apply below_drew1 | refine below_set ?_ GE726.out) | exact HB.out))))
        have n4_ := Aside0.mk (blk_below (g := gb726) (o := .cells #[.int .i64 ((rd_T38 x5_1 (ji25)).f0), .int .i64 ((rd_T38 x5_1 (ji25)).f1), .int .i64 ((rd_T38 x5_1 (ji25)).f2)] 38 (0, 0)) (by (with_reducible repeat (first | refine blk_drewN ?_ _ | refine blk_drew ?_ | refine blk_alloc ?_ _)); exact BK726.out) hb)
        have n5_ := Aside0.mk (below_step (by repeat (first | (with_reducible first | exact HB.out | apply below_alloc | apply pw_below_drewN | apply below_drew1 | refine below_set ?_ GE726.out) | exact HB.out)) hb)
        clear HO_5
        clear HO_8
        clear HO733
        clear BK726
        clear HB
        have HO_5 := n0_
        have HO_8 := n1_
        have HO733 := n2_
        have HO730 := n3_
        have BK726 := n4_
        have HB := n5_
        clear n0_ n1_ n2_ n3_ n4_ n5_
        (try clear hb)
        (try clear hb2)
        (try clear hk)
        (try clear hi)
        (try clear ho0)
        refine hK.out _ _ ⟨(blk_cell BK726.out 0).trans rfl, (blk_cell BK726.out 1).trans rfl, (blk_cell BK726.out 2).trans rfl⟩ (fun hHeld => ?_)
        clear hK K
        refine norm_ (a' := ?_) ?_ ?_
        rotate_left
        ·show Act.put _ (some 65) _ = _
         simp only [Act.put, List.setIfInBounds_toArray, List.set_cons_zero, List.set_cons_succ, i64_w, i32_w]
         rfl
        exact norm_ (by simp only [putAll, Act.put, List.setIfInBounds_toArray, List.set_cons_zero, List.set_cons_succ]) (hCont (v729, v732) _ ⟨hHeld, (by (with_reducible repeat (first | apply Kd.R_alloc | apply Kd.R_drewN | apply Kd.R_drew)); exact Kd.R_mono HO730.out (fun _ hk => hk.2)), (by (with_reducible repeat (first | apply Kd.R_alloc | apply Kd.R_drewN | apply Kd.R_drew)); exact Kd.R_mono HO733.out (fun _ hk => hk.2)), (by (with_reducible repeat (first | apply Kd.R_alloc | apply Kd.R_drewN | apply Kd.R_drew)); exact HO_5.out), (by (with_reducible repeat (first | apply Kd.R_alloc | apply Kd.R_drewN | apply Kd.R_drew)); exact HO_8.out), (by (with_reducible repeat (first | refine blk_drewN ?_ _ | refine blk_drew ?_ | refine blk_alloc ?_ _)); exact BK726.out), (by repeat (first | (with_reducible first | exact HB.out | apply below_alloc | apply pw_below_drewN | apply below_drew1 | refine below_set ?_ GE726.out) | exact HB.out))⟩)
      rintro ⟨v729, v732⟩ w68 ⟨hS_, h0_, h1_, h2_, h3_, h4_, h5_⟩
      have n0_ : Aside0 (Kd.R (Kd.int .u8) 5 w68 w.heap.size (fun k_ => some k_ ≠ (v732 : Value).ownBlock) v729 t728) := ⟨h0_⟩
      have n1_ : Aside0 (Kd.R (Kd.int .u8) 5 w68 w.heap.size (fun k_ => some k_ ≠ (v729 : Value).ownBlock) v732 y731) := ⟨h1_⟩
      have n2_ : Aside0 (Kd.R k38 38 w68 w.heap.size (fun k_ => k_ ≠ gb726) (.slice (some ad725) x5_1.length co59) x5_1) := ⟨h2_⟩
      have n3_ : Aside0 (Kd.R (Kd.int .i64) 3 w68 w.heap.size (fun _ => True) (.slice (some ad727) t722.length co62) t722) := ⟨h3_⟩
      have n4_ : Aside0 (w68.heap[gb726]? = some (.cells #[.int .i64 ((rd_T38 x5_1 (ji25)).f0), .int .i64 ((rd_T38 x5_1 (ji25)).f1), .int .i64 ((rd_T38 x5_1 (ji25)).f2)] 38 (0, 0))) := ⟨h4_⟩
      have n5_ : Aside0 (Below w.heap.size w w68) := ⟨h5_⟩
      clear HO_5
      clear HO_8
      clear BK726
      clear HB
      clear h0_ h1_ h2_ h3_ h4_ h5_
      have HO730 := n0_
      have HO733 := n1_
      have HO_5 := n2_
      have HO_8 := n3_
      have BK726 := n4_
      have HB := n5_
      clear n0_ n1_ n2_ n3_ n4_ n5_
      have hHeld : w68.cell? ⟨gb726, 0, none⟩ = some (.int .i64 ((rd_T38 x5_1 (ji25)).f0)) ∧ w68.cell? ⟨gb726, 1, none⟩ = some (.int .i64 ((rd_T38 x5_1 (ji25)).f1)) ∧ w68.cell? ⟨gb726, 2, none⟩ = some (.int .i64 ((rd_T38 x5_1 (ji25)).f2)) := hS_
      obtain ⟨Ao70, co70, eo70⟩ := Kd.R_slice HO733.out
      (first | subst eo70 | (injection eo70 with f1_ f2_ f3_; have f4_ := f1_.symm; have f5_ := f3_.symm; clear f1_ f2_ f3_; subst f4_; subst f5_))
      refine norm_ (a' := ?_) ?_ ?_
      rotate_left
      ·simp only [putAll, Act.put, List.setIfInBounds_toArray, List.set_cons_zero, List.set_cons_succ]
       rfl
      refine one_ (i := 7) (N := some 71) qm_M19_9 rfl rfl (one_of HT_.out (by kernel_rfl)) (by decide) (fun K hK => ?_)
      refine Kd.R_append_rows_step (Kd.int .u8) (w0 := w) w.heap.size (by rfl) (.tmp 65) (.tmp 70) 23 5 (.int .u8 0) 1 rfl Try.underlying23 info5 rfl (by decide) (by omega) v729 t728 y731 _ _ _ (fun k_ => some k_ ≠ (.slice Ao70 y731.length co70 : Value).ownBlock) (fun _ => False) rfl rfl ?aO ?aR (fun _ _ h => h) (fun _ h => h.elim) ?aF ?aB ?aS ?aL ?_
      (case aR => repeat (first | exact (Kd.R_reads' HO733.out).2.2 | (with_reducible refine Kd.C_alloc ?_ _) | (with_reducible refine Kd.C_drewN ?_ _) | (with_reducible refine Kd.C_drew ?_)))
      (case aB => exact (by repeat (first | (with_reducible first | exact HB.out | apply below_alloc | apply pw_below_drewN | apply below_drew1 | refine below_set ?_ GE726.out) | exact HB.out)))
      (case aF => exact (fun k_ hk => Kd.fresh' (Kd.R_lt (by (with_reducible repeat (first | apply Kd.R_alloc | apply Kd.R_drewN | apply Kd.R_drew)); exact HO733.out)) k_ hk))
      (case aO => exact (by (with_reducible repeat (first | apply Kd.R_alloc | apply Kd.R_drewN | apply Kd.R_drew)); exact HO730.out))
      (case aS => exact (below_size (by repeat (first | (with_reducible first | exact HB.out | apply below_alloc | apply pw_below_drewN | apply below_drew1 | refine below_set ?_ GE726.out) | exact HB.out))))
      (case aL => have := LMc33.out; omega)
      intro v735 w69 ho hb hg hat
      rw [← Ny734.out] at ho
      have n0_ := Aside0.mk (Kd.R_over' (by (with_reducible repeat (first | apply Kd.R_alloc | apply Kd.R_drewN | apply Kd.R_drew)); exact HO_5.out) (Kd.R_typed (by (with_reducible repeat (first | apply Kd.R_alloc | apply Kd.R_drewN | apply Kd.R_drew)); exact HO730.out)) (by decide) hg)
      have n1_ := Aside0.mk (Kd.R_over' (by (with_reducible repeat (first | apply Kd.R_alloc | apply Kd.R_drewN | apply Kd.R_drew)); exact HO_8.out) (Kd.R_typed (by (with_reducible repeat (first | apply Kd.R_alloc | apply Kd.R_drewN | apply Kd.R_drew)); exact HO730.out)) (by decide) hg)
      have n2_ := Aside0.mk (blk_grown (g := gb726) (o := .cells #[.int .i64 ((rd_T38 x5_1 (ji25)).f0), .int .i64 ((rd_T38 x5_1 (ji25)).f1), .int .i64 ((rd_T38 x5_1 (ji25)).f2)] 38 (0, 0)) (by (with_reducible repeat (first | refine blk_drewN ?_ _ | refine blk_drew ?_ | refine blk_alloc ?_ _)); exact BK726.out) hg (Kd.R_ne HO730.out BK726.out (by decide)))
      have n3_ := Aside0.mk (Kd.R_after (ok := (fun _ => True)) (by (with_reducible repeat (first | apply Kd.R_alloc | apply Kd.R_drewN | apply Kd.R_drew)); exact Kd.R_mono HO733.out (fun _ hk => ⟨trivial, hk⟩)) hg hat)
      have n4_ := Aside0.mk (hb)
      have n5_ := Aside0.mk (ho)
      clear HO_5
      clear HO_8
      clear BK726
      clear HO733
      clear HB
      clear HO730
      have HO_5 := n0_
      have HO_8 := n1_
      have BK726 := n2_
      have HO733 := n3_
      have HB := n4_
      have HO736 := n5_
      clear n0_ n1_ n2_ n3_ n4_ n5_
      clear ho hb hg hat
      obtain ⟨Ao71, co71, eo71⟩ := Kd.R_slice HO736.out
      (first | subst eo71 | (injection eo71 with f1_ f2_ f3_; have f4_ := f1_.symm; have f5_ := f3_.symm; clear f1_ f2_ f3_; subst f4_; subst f5_))
      refine hK.out _ _ ⟨(blk_cell BK726.out 0).trans rfl, (blk_cell BK726.out 1).trans rfl, (blk_cell BK726.out 2).trans rfl⟩ (fun hHeld => ?_)
      clear hK K
      refine norm_ (a' := ?_) ?_ ?_
      rotate_left
      ·show Act.put _ (some 71) _ = _
       simp only [Act.put, List.setIfInBounds_toArray, List.set_cons_zero, List.set_cons_succ, i64_w, i32_w]
       rfl
      refine one_ (i := 8) (N := some 72) qm_M19_10 rfl rfl (one_of HT_.out (by kernel_rfl)) (by decide) (fun K hK => ?_)
      refine goes_ Try.func13 (by kernel_rfl) rfl #[.slice Ao71 y734.length co71] (by rfl) rfl rfl (by (try simp only [List.map_toArray, List.map_cons, List.map_nil]); first | done | rfl | (simp only [List.length_drop, List.length_take]; rfl)) ?_
      with_reducible refine (teletex_Read.calls kj15 _ _ y734 t737 t738 t739 _ ?side1 ?side2 A34.out).mono ?_
      (case side1 => repeat (first | exact (Kd.R_reads' HO736.out).2.2 | (with_reducible refine Kd.C_alloc ?_ _) | (with_reducible refine Kd.C_drewN ?_ _) | (with_reducible refine Kd.C_drew ?_)))
      (case side2 => exact (Kd.R_reads' HO736.out).2.1)
      rintro e w72 ⟨v740, rfl, ho0, hb⟩
      refine ⟨_, rfl, ?_⟩
      have n0_ := Aside0.mk (Kd.R_below (by (with_reducible repeat (first | apply Kd.R_alloc | apply Kd.R_drewN | apply Kd.R_drew)); exact HO_5.out) hb)
      have n1_ := Aside0.mk (Kd.R_elder' (by (with_reducible repeat (first | apply Kd.R_alloc | apply Kd.R_drewN | apply Kd.R_drew)); exact HO_8.out) (Kd.R_base ho0) hb)
      have n2_ := Aside0.mk (Kd.R_below (by (with_reducible repeat (first | apply Kd.R_alloc | apply Kd.R_drewN | apply Kd.R_drew)); exact HO733.out) hb)
      have n3_ := Aside0.mk (Kd.R_below (by (with_reducible repeat (first | apply Kd.R_alloc | apply Kd.R_drewN | apply Kd.R_drew)); exact HO736.out) hb)
      have n4_ := Aside0.mk (Kd.R_lower (Kd.R_new' ho0 (Kd.R_lt (by (with_reducible repeat (first | apply Kd.R_alloc | apply Kd.R_drewN | apply Kd.R_drew)); exact HO_8.out))) (below_size (by repeat (first | (with_reducible first | exact HB.out | apply below_alloc | apply pw_below_drewN | apply below_drew1 | refine below_set ?_ GE726.out) | exact HB.out))))
      have n5_ := Aside0.mk (blk_below (g := gb726) (o := .cells #[.int .i64 ((rd_T38 x5_1 (ji25)).f0), .int .i64 ((rd_T38 x5_1 (ji25)).f1), .int .i64 ((rd_T38 x5_1 (ji25)).f2)] 38 (0, 0)) (by (with_reducible repeat (first | refine blk_drewN ?_ _ | refine blk_drew ?_ | refine blk_alloc ?_ _)); exact BK726.out) hb)
      have n6_ := Aside0.mk (below_step (by repeat (first | (with_reducible first | exact HB.out | apply below_alloc | apply pw_below_drewN | apply below_drew1 | refine below_set ?_ GE726.out) | exact HB.out)) hb)
      clear HO_5
      clear HO_8
      clear HO733
      clear HO736
      clear BK726
      clear HB
      have HO_5 := n0_
      have HO_8 := n1_
      have HO733 := n2_
      have HO736 := n3_
      have HO741 := n4_
      have BK726 := n5_
      have HB := n6_
      clear n0_ n1_ n2_ n3_ n4_ n5_ n6_
      (try clear hb)
      (try clear hb2)
      (try clear hk)
      (try clear hi)
      (try clear ho0)
      refine hK.out _ _ ⟨(blk_cell BK726.out 0).trans rfl, (blk_cell BK726.out 1).trans rfl, (blk_cell BK726.out 2).trans rfl⟩ (fun hHeld => ?_)
      clear hK K
      refine norm_ (a' := ?_) ?_ ?_
      rotate_left
      ·show Act.put _ (some 72) _ = _
       simp only [Act.put, List.setIfInBounds_toArray, List.set_cons_zero, List.set_cons_succ, i64_w, i32_w]
       rfl
      refine pure_ (i := 9) (N := some 63) (v := ?_) (a' := ?_) qm_M19_11 rfl rfl (any_of HT_.out (by kernel_rfl)) (fun _ _ _ h => h) (Or.inl ⟨by rfl, ?_⟩) ?_ ?_
      rotate_left
      ·intro w'
       go_simp
       with_reducible rfl
      rotate_left
      ·simp only [Act.put, List.setIfInBounds_toArray, List.set_cons_zero, List.set_cons_succ, i64_w, i32_w]
       rfl
      refine pure_ (i := 10) (N := some 73) (v := ?_) (a' := ?_) qm_M19_12 rfl rfl (any_of HT_.out (by kernel_rfl)) (fun _ _ _ h => h) (Or.inl ⟨by rfl, ?_⟩) ?_ ?_
      rotate_left
      ·intro w'
       go_simp
       with_reducible rfl
      rotate_left
      ·simp only [Act.put, List.setIfInBounds_toArray, List.set_cons_zero, List.set_cons_succ, i64_w, i32_w]
       rfl
      refine pure_ (i := 11) (N := some 74) (v := ?_) (a' := ?_) qm_M19_13 rfl rfl (any_of HT_.out (by kernel_rfl)) (fun _ _ _ h => h) (Or.inl ⟨by rfl, ?_⟩) ?_ ?_
      rotate_left
      ·intro w'
       go_simp
       with_reducible rfl
      rotate_left
      ·simp only [Act.put, List.setIfInBounds_toArray, List.set_cons_zero, List.set_cons_succ, i64_w, i32_w]
       rfl
      refine pure_ (i := 12) (N := some 75) (v := ?_) (a' := ?_) qm_M19_14 rfl rfl (any_of HT_.out (by kernel_rfl)) (fun _ _ _ h => h) (Or.inl ⟨by rfl, ?_⟩) ?_ ?_
      rotate_left
      ·intro w'
       go_simp
       with_reducible rfl
      rotate_left
      ·simp only [Act.put, List.setIfInBounds_toArray, List.set_cons_zero, List.set_cons_succ, i64_w, i32_w]
       rfl
      refine pure_ (i := 13) (N := some 11) (v := ?_) (a' := ?_) qm_M19_15 rfl rfl (any_of HT_.out (by kernel_rfl)) (fun _ _ _ h => h) (Or.inl ⟨by rfl, ?_⟩) ?_ ?_
      rotate_left
      ·intro w'
       go_simp
       with_reducible rfl
      rotate_left
      ·simp only [Act.put, List.setIfInBounds_toArray, List.set_cons_zero, List.set_cons_succ, i64_w, i32_w]
       rfl
      refine pure_ (i := 14) (N := some 12) (v := ?_) (a' := ?_) qm_M19_16 rfl rfl (any_of HT_.out (by kernel_rfl)) (fun _ _ _ h => h) (Or.inl ⟨by rfl, ?_⟩) ?_ ?_
      rotate_left
      ·intro w'
       go_simp
       with_reducible rfl
      rotate_left
      ·simp only [Act.put, List.setIfInBounds_toArray, List.set_cons_zero, List.set_cons_succ, i64_w, i32_w]
       rfl
      refine pure_ (i := 15) (N := some 13) (v := ?_) (a' := ?_) qm_M19_17 rfl rfl (any_of HT_.out (by kernel_rfl)) (fun _ _ _ h => h) (Or.inl ⟨by rfl, ?_⟩) ?_ ?_
      rotate_left
      ·intro w'
       go_simp
       with_reducible rfl
      rotate_left
      ·simp only [Act.put, List.setIfInBounds_toArray, List.set_cons_zero, List.set_cons_succ, i64_w, i32_w]
       rfl
      refine done_ (done_of HT_.out (by kernel_rfl)) ?_
      have hcz73_0 : w72.cell? ⟨gb726, 0, none⟩ = some (.int .i64 ((rd_T38 x5_1 (ji25)).f0)) := (blk_cell BK726.out 0).trans rfl
      have hcz73_1 : w72.cell? ⟨gb726, 1, none⟩ = some (.int .i64 ((rd_T38 x5_1 (ji25)).f1)) := (blk_cell BK726.out 1).trans rfl
      have hcz73_2 : w72.cell? ⟨gb726, 2, none⟩ = some (.int .i64 ((rd_T38 x5_1 (ji25)).f2)) := (blk_cell BK726.out 2).trans rfl
      have hfz73_0 := blk_frozen BK726.out 0
      have hfz73_1 := blk_frozen BK726.out 1
      have hfz73_2 := blk_frozen BK726.out 2
      try go_wp2_with (first | ((with_reducible refine gate_dst (N := 82) rfl ?_); (try (refine gate_guard (by rfl) ?_; dsimp only)); refine Kd.R_lit (Kd.int .i64) _ 3 ?hg (N := 82) ?hd (xs := ([(rd_T38 x5_1 (ji25)).f2] : List Int)) (inner := [.int .i64 ((rd_T38 x5_1 (ji25)).f2)]) (ok := fun _ => True) (okp := fun _ => True) ?hr ?hp (fun _ hk => hk) trivial (Below.refl _ _) (Nat.le_refl _) (by simp) ?_; (case hd => rfl); (case hg => rfl); (case hr => first | (go_simp; done) | (go_simp; rfl)); (case hp => exact (Reps.one (show Kd.M (Kd.int .i64) _ _ _ ((rd_T38 x5_1 (ji25)).f2) [.int .i64 ((rd_T38 x5_1 (ji25)).f2)] from rfl) (Reps.none _ _))); intro v743 w74 ho75 hb hg_ hnew_; clear hg_ hnew_; (first | rw [← Ny742.out] at ho75 | (simp only [Int.reduceToNat] at ho75; rw [← Ny742.out] at ho75)); have n0_ := Aside0.mk (Kd.R_below (by (with_reducible repeat (first | apply Kd.R_alloc | apply Kd.R_drewN | apply Kd.R_drew)); exact HO_5.out) hb); have n1_ := Aside0.mk (Kd.R_elder' (by (with_reducible repeat (first | apply Kd.R_alloc | apply Kd.R_drewN | apply Kd.R_drew)); exact HO_8.out) (Kd.R_base ho75) hb); have n2_ := Aside0.mk (Kd.R_below (by (with_reducible repeat (first | apply Kd.R_alloc | apply Kd.R_drewN | apply Kd.R_drew)); exact HO733.out) hb); have n3_ := Aside0.mk (Kd.R_below (by (with_reducible repeat (first | apply Kd.R_alloc | apply Kd.R_drewN | apply Kd.R_drew)); exact HO736.out) hb); have n4_ := Aside0.mk (Kd.R_elder' (by (with_reducible repeat (first | apply Kd.R_alloc | apply Kd.R_drewN | apply Kd.R_drew)); exact HO741.out) (Kd.R_base ho75) hb); have n5_ := Aside0.mk (Kd.R_lower (Kd.R_new' (Kd.R_new' ho75 (Kd.R_lt (by (with_reducible repeat (first | apply Kd.R_alloc | apply Kd.R_drewN | apply Kd.R_drew)); exact HO_8.out))) (Kd.R_lt (by (with_reducible repeat (first | apply Kd.R_alloc | apply Kd.R_drewN | apply Kd.R_drew)); exact HO741.out))) (below_size (by repeat (first | (with_reducible first | exact HB.out | apply below_alloc | apply pw_below_drewN | apply below_drew1 | refine below_set ?_ GE726.out) | exact HB.out)))); have n6_ := Aside0.mk (blk_below (g := gb726) (o := .cells #[.int .i64 ((rd_T38 x5_1 (ji25)).f0), .int .i64 ((rd_T38 x5_1 (ji25)).f1), .int .i64 ((rd_T38 x5_1 (ji25)).f2)] 38 (0, 0)) (by (with_reducible repeat (first | refine blk_drewN ?_ _ | refine blk_drew ?_ | refine blk_alloc ?_ _)); exact BK726.out) hb); have n7_ := Aside0.mk (below_step (by repeat (first | (with_reducible first | exact HB.out | apply below_alloc | apply pw_below_drewN | apply below_drew1 | refine below_set ?_ GE726.out) | exact HB.out)) hb); clear HO_5; clear HO_8; clear HO733; clear HO736; clear HO741; clear BK726; clear HB; have HO_5 := n0_; have HO_8 := n1_; have HO733 := n2_; have HO736 := n3_; have HO741 := n4_; have HO744 := n5_; have BK726 := n6_; have HB := n7_; clear n0_ n1_ n2_ n3_ n4_ n5_ n6_ n7_; clear hb ho75; obtain ⟨Ao76, co76, eo76⟩ := Kd.R_slice HO741.out; subst eo76; obtain ⟨Ao77, co77, eo77⟩ := Kd.R_slice HO744.out; subst eo77) | (go_at_call 14; (with_reducible refine (sobriquetkeep_Ints.calls kj15 _ _ t737 _ _ y742 false _ ?side1 ?side2 ?side3 ?side4 A36.out).mono ?_); (case side1 => repeat (first | exact (Kd.R_reads' HO741.out).2.2 | (with_reducible refine Kd.C_alloc ?_ _) | (with_reducible refine Kd.C_drewN ?_ _) | (with_reducible refine Kd.C_drew ?_))); (case side2 => exact (Kd.R_reads' HO741.out).2.1); (case side3 => repeat (first | exact (Kd.R_reads' HO744.out).2.2 | (with_reducible refine Kd.C_alloc ?_ _) | (with_reducible refine Kd.C_drewN ?_ _) | (with_reducible refine Kd.C_drew ?_))); (case side4 => exact (Kd.R_reads' HO744.out).2.1); rintro e w' ⟨rfl, ⟨nd, rfl⟩⟩))
      go_ret
      exact ⟨by first | rfl | (simp [errW_none, errW_some] <;> rfl) | (simp only [← hji25, ← hji29]; first | rfl | (simp [errW_none, errW_some] <;> rfl)) | (simp [*, errW_none, errW_some] <;> rfl), by repeat (first | (with_reducible first | exact HB.out | apply below_alloc | apply pw_below_drewN | apply below_drew1 | refine below_set ?_ GE726.out) | exact HB.out)⟩
     subst c37
     have H1 : ((sobriquetlaw18_wakes.f).bind fun t746 => (some t746)) = some r := by rw [if_pos rfl] at H; exact H
     clear H
     have H := H1
     clear H1
     replace H := Option.bind_eq_some_iff.mp H
     obtain ⟨t746, A380, H⟩ := H
     replace H : (some t746) = some r := H
     have A38 := Aside0.mk A380
     clear A380
     obtain rfl := Option.some.inj H
     obtain ⟨Ao39, co39, eo39⟩ := Kd.R_slice HO_5.out
     subst eo39
     have p725 : 0 ≤ ((ji25) : Int) := of_decide_eq_true (by first | (with_reducible assumption) | assumption)
     have q725 : (ji25) < (x5_1.length : Int) := of_decide_eq_true (by first | (with_reducible assumption) | assumption)
     obtain ⟨ad725, e725, hx725_0, hx725_1, hx725_2⟩ := at_T38 (Kd.R_reads' HO_5.out).2.2 (ji25) p725 q725
     cases e725
     replace p725 := eq_true p725
     replace q725 := eq_true q725
     try go_wp2_with (first | ((with_reducible refine gate_dst (N := 9) rfl ?_); (try (refine gate_guard (by rfl) ?_; dsimp only)); refine box_event ?hg (N := 9) ?hd (cs := #[.int .i64 0, .int .i64 0, .int .i64 0]) (t := 38) ?hr ?_; (case hd => rfl); (case hg => rfl); (case hr => first | (go_simp; done) | (go_simp; rfl)); intro gb726 hg w40 hbox hb; have n0_ := Aside0.mk (Kd.R_below (Kd.R_elderB (by (with_reducible repeat (first | apply Kd.R_alloc | apply Kd.R_drewN | apply Kd.R_drew)); exact HO_5.out) gb726 (Nat.le_of_eq hg.symm)) hb); have n1_ := Aside0.mk (Kd.R_below (by (with_reducible repeat (first | apply Kd.R_alloc | apply Kd.R_drewN | apply Kd.R_drew)); exact HO_8.out) hb); have n2_ := Aside0.mk (below_step (by repeat (first | (with_reducible first | exact HB.out | apply below_alloc | apply pw_below_drewN | apply below_drew1) | exact HB.out)) hb); have n3_ := Aside0.mk (hbox); have n4_ := Aside0.mk ((by rw [hg]; exact (below_size (by repeat (first | (with_reducible first | exact HB.out | apply below_alloc | apply pw_below_drewN | apply below_drew1) | exact HB.out))) : w.heap.size ≤ gb726)); have n5_ := Aside0.mk ((by rw [hg]; exact (below_size (by repeat (first | (with_reducible first | exact HB.out | apply below_alloc | apply pw_below_drewN | apply below_drew1) | exact HB.out))) : w.heap.size ≤ gb726)); clear HO_5; clear HO_8; clear HB; have HO_5 := n0_; have HO_8 := n1_; have HB := n2_; have BK726 := n3_; have GW726 := n4_; have GE726 := n5_; clear n0_ n1_ n2_ n3_ n4_ n5_; clear hb hbox hg; have hcz41_0 : w40.cell? ⟨gb726, 0, none⟩ = some (.int .i64 0) := (blk_cell BK726.out 0).trans rfl; have hcz41_1 : w40.cell? ⟨gb726, 1, none⟩ = some (.int .i64 0) := (blk_cell BK726.out 1).trans rfl; have hcz41_2 : w40.cell? ⟨gb726, 2, none⟩ = some (.int .i64 0) := (blk_cell BK726.out 2).trans rfl; have hfz41_0 := blk_frozen BK726.out 0; have hfz41_1 := blk_frozen BK726.out 1; have hfz41_2 := blk_frozen BK726.out 2; obtain ⟨Ao42, co42, eo42⟩ := Kd.R_slice HO_8.out; subst eo42; have p727 : 0 ≤ ((ji29) : Int) := of_decide_eq_true (by first | (with_reducible assumption) | assumption); have q727 : (ji29) < (t722.length : Int) := of_decide_eq_true (by first | (with_reducible assumption) | assumption); obtain ⟨ad727, e727, hx727_0⟩ := Kd.at_int (Kd.R_reads' HO_8.out).2.2 (ji29) p727 q727; cases e727; have hn727_0 : ad727.block ≠ gb726 := Kd.own_blk (Kd.R_ne HO_8.out BK726.out (by decide)); have hn727_1 : ad727.block ≠ gb726 := Kd.own_blk (Kd.R_ne HO_8.out BK726.out (by decide)); have hn727_2 : ad727.block ≠ gb726 := Kd.own_blk (Kd.R_ne HO_8.out BK726.out (by decide)); replace hx727_0 := (cell_far (p := ⟨gb726, 0, none⟩) (by first | (rw [add_block]; exact hn727_0) | (show (Addr.add _ _).block ≠ _; rw [add_block]; exact hn727_0) | exact hn727_0) (.int .i64 ((rd_T38 x5_1 (ji25)).f0))).trans hx727_0; replace hx727_0 := (cell_far (p := ⟨gb726, 1, none⟩) (by first | (rw [add_block]; exact hn727_1) | (show (Addr.add _ _).block ≠ _; rw [add_block]; exact hn727_1) | exact hn727_1) (.int .i64 ((rd_T38 x5_1 (ji25)).f1))).trans hx727_0; replace hx727_0 := (cell_far (p := ⟨gb726, 2, none⟩) (by first | (rw [add_block]; exact hn727_2) | (show (Addr.add _ _).block ≠ _; rw [add_block]; exact hn727_2) | exact hn727_2) (.int .i64 ((rd_T38 x5_1 (ji25)).f2))).trans hx727_0; clear hn727_0; clear hn727_1; clear hn727_2; replace p727 := eq_true p727; replace q727 := eq_true q727))
     have n0_ : Aside0 (Kd.R k38 38 (((w40.setCell ⟨gb726, 0, none⟩ (.int .i64 ((rd_T38 x5_1 (ji25)).f0))).setCell ⟨gb726, 1, none⟩ (.int .i64 ((rd_T38 x5_1 (ji25)).f1))).setCell ⟨gb726, 2, none⟩ (.int .i64 ((rd_T38 x5_1 (ji25)).f2))) w.heap.size (fun k_ => k_ ≠ gb726) (.slice (some ad725) x5_1.length co39) x5_1) := ⟨by (with_reducible repeat (first | apply Kd.R_alloc | apply Kd.R_drewN | apply Kd.R_drew)); exact Kd.R_mono (Kd.R_far (p := ⟨gb726, 2, none⟩) (Kd.R_far (p := ⟨gb726, 1, none⟩) (Kd.R_far (p := ⟨gb726, 0, none⟩) (Kd.R_mono HO_5.out (fun k_ hk => (⟨hk, hk.2⟩ : _ ∧ k_ ≠ gb726))) (fun _ hk => hk.2) (.int .i64 ((rd_T38 x5_1 (ji25)).f0))) (fun _ hk => hk.2) (.int .i64 ((rd_T38 x5_1 (ji25)).f1))) (fun _ hk => hk.2) (.int .i64 ((rd_T38 x5_1 (ji25)).f2))) (fun _ hk => hk.1.2)⟩
     have n1_ : Aside0 (Kd.R (Kd.int .i64) 3 (((w40.setCell ⟨gb726, 0, none⟩ (.int .i64 ((rd_T38 x5_1 (ji25)).f0))).setCell ⟨gb726, 1, none⟩ (.int .i64 ((rd_T38 x5_1 (ji25)).f1))).setCell ⟨gb726, 2, none⟩ (.int .i64 ((rd_T38 x5_1 (ji25)).f2))) w.heap.size (fun _ => True) (.slice (some ad727) t722.length co42) t722) := ⟨by (with_reducible repeat (first | apply Kd.R_alloc | apply Kd.R_drewN | apply Kd.R_drew)); exact Kd.R_mono (Kd.R_far (p := ⟨gb726, 2, none⟩) (Kd.R_far (p := ⟨gb726, 1, none⟩) (Kd.R_far (p := ⟨gb726, 0, none⟩) (Kd.R_types HO_8.out BK726.out (by decide)) (fun _ hk => hk.2) (.int .i64 ((rd_T38 x5_1 (ji25)).f0))) (fun _ hk => hk.2) (.int .i64 ((rd_T38 x5_1 (ji25)).f1))) (fun _ hk => hk.2) (.int .i64 ((rd_T38 x5_1 (ji25)).f2))) (fun _ hk => trivial)⟩
     have n2_ : Aside0 ((((w40.setCell ⟨gb726, 0, none⟩ (.int .i64 ((rd_T38 x5_1 (ji25)).f0))).setCell ⟨gb726, 1, none⟩ (.int .i64 ((rd_T38 x5_1 (ji25)).f1))).setCell ⟨gb726, 2, none⟩ (.int .i64 ((rd_T38 x5_1 (ji25)).f2))).heap[gb726]? = some (.cells #[.int .i64 ((rd_T38 x5_1 (ji25)).f0), .int .i64 ((rd_T38 x5_1 (ji25)).f1), .int .i64 ((rd_T38 x5_1 (ji25)).f2)] 38 (0, 0))) := ⟨by (with_reducible repeat (first | refine blk_drewN ?_ _ | refine blk_drew ?_ | refine blk_alloc ?_ _)); refine blk_put (cs := #[.int .i64 ((rd_T38 x5_1 (ji25)).f0), .int .i64 ((rd_T38 x5_1 (ji25)).f1), .int .i64 0]) ?_ 2 _ rfl; (with_reducible repeat (first | refine blk_drewN ?_ _ | refine blk_drew ?_ | refine blk_alloc ?_ _)); refine blk_put (cs := #[.int .i64 ((rd_T38 x5_1 (ji25)).f0), .int .i64 0, .int .i64 0]) ?_ 1 _ rfl; (with_reducible repeat (first | refine blk_drewN ?_ _ | refine blk_drew ?_ | refine blk_alloc ?_ _)); refine blk_put (cs := #[.int .i64 0, .int .i64 0, .int .i64 0]) ?_ 0 _ rfl; (with_reducible repeat (first | refine blk_drewN ?_ _ | refine blk_drew ?_ | refine blk_alloc ?_ _)); exact BK726.out⟩
     have n3_ : Aside0 (Below w.heap.size w (((w40.setCell ⟨gb726, 0, none⟩ (.int .i64 ((rd_T38 x5_1 (ji25)).f0))).setCell ⟨gb726, 1, none⟩ (.int .i64 ((rd_T38 x5_1 (ji25)).f1))).setCell ⟨gb726, 2, none⟩ (.int .i64 ((rd_T38 x5_1 (ji25)).f2)))) := ⟨by repeat (first | (with_reducible first | exact HB.out | apply below_alloc | apply pw_below_drewN | apply below_drew1 | refine below_set ?_ GE726.out) | exact HB.out)⟩
     (try clear HO_5)
     (try clear HO_8)
     (try clear BK726)
     (try clear HB)
     generalize (((w40.setCell ⟨gb726, 0, none⟩ (.int .i64 ((rd_T38 x5_1 (ji25)).f0))).setCell ⟨gb726, 1, none⟩ (.int .i64 ((rd_T38 x5_1 (ji25)).f1))).setCell ⟨gb726, 2, none⟩ (.int .i64 ((rd_T38 x5_1 (ji25)).f2))) = w43 at n0_ n1_ n2_ n3_ ⊢
     have HO_5 := n0_
     have HO_8 := n1_
     have BK726 := n2_
     have HB := n3_
     clear n0_ n1_ n2_ n3_
     have n0_ := Aside0.mk (Kd.R_drew HO_5.out)
     have n1_ := Aside0.mk (Kd.R_drew HO_8.out)
     have n2_ := Aside0.mk (blk_drew BK726.out)
     have n3_ := Aside0.mk (below_drew1 HB.out)
     clear HO_5
     clear HO_8
     clear BK726
     clear HB
     have HO_5 := n0_
     have HO_8 := n1_
     have BK726 := n2_
     have HB := n3_
     clear n0_ n1_ n2_ n3_
     refine start_ (n := 16) (S := fun w' => w'.cell? ⟨gb726, 0, none⟩ = some (.int .i64 ((rd_T38 x5_1 (ji25)).f0)) ∧ w'.cell? ⟨gb726, 1, none⟩ = some (.int .i64 ((rd_T38 x5_1 (ji25)).f1)) ∧ w'.cell? ⟨gb726, 2, none⟩ = some (.int .i64 ((rd_T38 x5_1 (ji25)).f2))) (ds := []) qm_M19_0 (by kernel_rfl) rfl rfl ⟨(blk_cell BK726.out 0).trans rfl, (blk_cell BK726.out 1).trans rfl, (blk_cell BK726.out 2).trans rfl⟩ (fun hHeld => ?_); refine with_tabW sobriquetlaw18_TeletexDirect.tab13 sobriquetlaw18_TeletexDirect.bits13 (fun HT_ HW_ => ?_)
     generalize w43.drew = w44 at HO_5 HO_8 BK726 HB hHeld ⊢
     refine pure_ (i := 0) (N := some 64) (v := ?_) (a' := ?_) qm_M19_1 rfl rfl (any_of HT_.out (by kernel_rfl)) (fun _ _ _ h => h) (Or.inl ⟨by rfl, ?_⟩) ?_ ?_
     rotate_left
     ·intro w'
      go_simp
      with_reducible rfl
     rotate_left
     ·simp only [Act.put, List.setIfInBounds_toArray, List.set_cons_zero, List.set_cons_succ, i64_w, i32_w]
      rfl
     refine pure_ (i := 2) (N := some 66) (v := ?_) (a' := ?_) qm_M19_2 rfl rfl (any_of HT_.out (by kernel_rfl)) (fun _ _ _ h => h) (Or.inl ⟨by rfl, ?_⟩) ?_ ?_
     rotate_left
     ·intro w'
      go_simp
      with_reducible rfl
     rotate_left
     ·simp only [Act.put, List.setIfInBounds_toArray, List.set_cons_zero, List.set_cons_succ, i64_w, i32_w]
      rfl
     refine take_ (i := 3) (N := some 67) (v := ?_) (a' := ?_) qm_M19_3 rfl rfl (take_ofW HT_.out HW_.out (by kernel_rfl)) (fun _ _ _ h => h) (Or.inl ⟨by rfl, ?_⟩) hHeld ?_ ?_
     rotate_left
     ·rintro w' ⟨s0, s1, s2⟩
      go_simp
      with_reducible rfl
     rotate_left
     ·simp only [Act.put, List.setIfInBounds_toArray, List.set_cons_zero, List.set_cons_succ, i64_w, i32_w]
      rfl
     refine pure_ (i := 4) (N := some 68) (v := ?_) (a' := ?_) qm_M19_4 rfl rfl (any_of HT_.out (by kernel_rfl)) (fun _ _ _ h => h) (Or.inl ⟨by rfl, ?_⟩) ?_ ?_
     rotate_left
     ·intro w'
      go_simp
      with_reducible rfl
     rotate_left
     ·simp only [Act.put, List.setIfInBounds_toArray, List.set_cons_zero, List.set_cons_succ, i64_w, i32_w]
      rfl
     refine pure_ (i := 5) (N := some 69) (v := ?_) (a' := ?_) qm_M19_5 rfl rfl (any_of HT_.out (by kernel_rfl)) (fun _ _ _ h => h) (Or.inl ⟨by rfl, ?_⟩) ?_ ?_
     rotate_left
     ·intro w'
      go_simp
      with_reducible rfl
     rotate_left
     ·simp only [Act.put, List.setIfInBounds_toArray, List.set_cons_zero, List.set_cons_succ, i64_w, i32_w]
      rfl
     refine join_ (σ := Value × Value) 9 qm_M19_6 (fun s_ => [(65, s_.1), (70, s_.2)]) (fun s_ w' => (w'.cell? ⟨gb726, 0, none⟩ = some (.int .i64 ((rd_T38 x5_1 (ji25)).f0)) ∧ w'.cell? ⟨gb726, 1, none⟩ = some (.int .i64 ((rd_T38 x5_1 (ji25)).f1)) ∧ w'.cell? ⟨gb726, 2, none⟩ = some (.int .i64 ((rd_T38 x5_1 (ji25)).f2))) ∧ (Kd.R (Kd.int .u8) 5 w' w.heap.size (fun k_ => some k_ ≠ (s_.2 : Value).ownBlock) s_.1 t728) ∧ (Kd.R (Kd.int .u8) 5 w' w.heap.size (fun k_ => some k_ ≠ (s_.1 : Value).ownBlock) s_.2 y731) ∧ (Kd.R k38 38 w' w.heap.size (fun k_ => k_ ≠ gb726) (.slice (some ad725) x5_1.length co39) x5_1) ∧ (Kd.R (Kd.int .i64) 3 w' w.heap.size (fun _ => True) (.slice (some ad727) t722.length co42) t722) ∧ (w'.heap[gb726]? = some (.cells #[.int .i64 ((rd_T38 x5_1 (ji25)).f0), .int .i64 ((rd_T38 x5_1 (ji25)).f1), .int .i64 ((rd_T38 x5_1 (ji25)).f2)] 38 (0, 0))) ∧ (Below w.heap.size w w')) ?_ ?_
     rotate_left
     ·intro hCont
      refine two_ (i := 1) (j := 6) (Ni := some 65) (Nj := some 70) qm_M19_7 qm_M19_8 rfl rfl rfl rfl (two_of HT_.out (by kernel_rfl)) (by decide) (by decide) (fun K hK => ?_) (fun K hK => ?_)
      ·skip
       refine goes_ Try.func17 (by kernel_rfl) rfl #[.int .i64 0, .int .i64 (rd t722 (ji29))] (by rfl) rfl rfl (by (try simp only [List.map_toArray, List.map_cons, List.map_nil]); first | done | (simp only [hji29]; rfl) | rfl | (simp only [List.length_drop, List.length_take]; rfl)) ?_
       with_reducible refine (sobriquetref13_Escape.calls 0 (rd t722 (ji29)) t728 _ A32.out).mono ?_
       rintro e w45 ⟨v729, rfl, ho0, hb⟩
       refine ⟨_, rfl, ?_⟩
       have n0_ := Aside0.mk (Kd.R_below (by (with_reducible repeat (first | apply Kd.R_alloc | apply Kd.R_drewN | apply Kd.R_drew)); exact HO_5.out) hb)
       have n1_ := Aside0.mk (Kd.R_below (by (with_reducible repeat (first | apply Kd.R_alloc | apply Kd.R_drewN | apply Kd.R_drew)); exact HO_8.out) hb)
       have n2_ := Aside0.mk (Kd.R_lower ho0 (below_size (by repeat (first | (with_reducible first | exact HB.out | apply below_alloc | apply pw_below_drewN | apply below_drew1 | refine below_set ?_ GE726.out) | exact HB.out))))
       have n3_ := Aside0.mk (blk_below (g := gb726) (o := .cells #[.int .i64 ((rd_T38 x5_1 (ji25)).f0), .int .i64 ((rd_T38 x5_1 (ji25)).f1), .int .i64 ((rd_T38 x5_1 (ji25)).f2)] 38 (0, 0)) (by (with_reducible repeat (first | refine blk_drewN ?_ _ | refine blk_drew ?_ | refine blk_alloc ?_ _)); exact BK726.out) hb)
       have n4_ := Aside0.mk (below_step (by repeat (first | (with_reducible first | exact HB.out | apply below_alloc | apply pw_below_drewN | apply below_drew1 | refine below_set ?_ GE726.out) | exact HB.out)) hb)
       clear HO_5
       clear HO_8
       clear BK726
       clear HB
       have HO_5 := n0_
       have HO_8 := n1_
       have HO730 := n2_
       have BK726 := n3_
       have HB := n4_
       clear n0_ n1_ n2_ n3_ n4_
       (try clear hb)
       (try clear hb2)
       (try clear hk)
       (try clear hi)
       (try clear ho0)
       refine hK.out _ _ ⟨(blk_cell BK726.out 0).trans rfl, (blk_cell BK726.out 1).trans rfl, (blk_cell BK726.out 2).trans rfl⟩ (fun hHeld => ?_)
       clear hK K
       refine norm_ (a' := ?_) ?_ ?_
       rotate_left
       ·show Act.put _ (some 65) _ = _
        simp only [Act.put, List.setIfInBounds_toArray, List.set_cons_zero, List.set_cons_succ, i64_w, i32_w]
        rfl
       refine one_ (i := 6) (N := some 70) qm_M19_6 rfl rfl (one_of HT_.out (by kernel_rfl)) (by decide) (fun K hK => ?_)
       refine Kd.R_lit_step (Kd.int .u8) _ 5 ?hg (N := 70) ?hd (xs := ([(wrap64 (((rd_T38 x5_1 (ji25)).f1) + 128)) % 256] : List Int)) (inner := [.int .u8 ((wrap64 (((rd_T38 x5_1 (ji25)).f1) + 128)) % 256)]) (ok := fun _ => True) (okp := fun _ => True) ?hr ?hp (fun _ hk => hk) trivial (Below.refl _ _) (Nat.le_refl _) (by simp) ?_; (case hd => rfl); (case hg => rfl); (case hr => first | (go_simp; done) | (go_simp; rfl)); (case hp => exact (Reps.one (show Kd.M (Kd.int .u8) _ _ _ ((wrap64 (((rd_T38 x5_1 (ji25)).f1) + 128)) % 256) [.int .u8 ((wrap64 (((rd_T38 x5_1 (ji25)).f1) + 128)) % 256)] from rfl) (Reps.none _ _)))
       intro v732 w46 ho47 hb hg_ hnew_
       clear hg_ hnew_
       (first | rw [← Ny731.out] at ho47 | (simp only [Int.reduceToNat] at ho47; rw [← Ny731.out] at ho47))
       have n0_ := Aside0.mk (Kd.R_below (by (with_reducible repeat (first | apply Kd.R_alloc | apply Kd.R_drewN | apply Kd.R_drew)); exact HO_5.out) hb)
       have n1_ := Aside0.mk (Kd.R_below (by (with_reducible repeat (first | apply Kd.R_alloc | apply Kd.R_drewN | apply Kd.R_drew)); exact HO_8.out) hb)
       have n2_ := Aside0.mk (Kd.R_elder' (by (with_reducible repeat (first | apply Kd.R_alloc | apply Kd.R_drewN | apply Kd.R_drew)); exact HO730.out) (Kd.R_base ho47) hb)
       have n3_ := Aside0.mk (Kd.R_lower (Kd.R_new' ho47 (Kd.R_lt (by (with_reducible repeat (first | apply Kd.R_alloc | apply Kd.R_drewN | apply Kd.R_drew)); exact HO730.out))) (below_size (by repeat (first | (with_reducible first | exact HB.out | apply below_alloc | apply pw_below_drewN | apply below_drew1 | refine below_set ?_ GE726.out) | exact HB.out))))
       have n4_ := Aside0.mk (blk_below (g := gb726) (o := .cells #[.int .i64 ((rd_T38 x5_1 (ji25)).f0), .int .i64 ((rd_T38 x5_1 (ji25)).f1), .int .i64 ((rd_T38 x5_1 (ji25)).f2)] 38 (0, 0)) (by (with_reducible repeat (first | refine blk_drewN ?_ _ | refine blk_drew ?_ | refine blk_alloc ?_ _)); exact BK726.out) hb)
       have n5_ := Aside0.mk (below_step (by repeat (first | (with_reducible first | exact HB.out | apply below_alloc | apply pw_below_drewN | apply below_drew1 | refine below_set ?_ GE726.out) | exact HB.out)) hb)
       clear HO_5
       clear HO_8
       clear HO730
       clear BK726
       clear HB
       have HO_5 := n0_
       have HO_8 := n1_
       have HO730 := n2_
       have HO733 := n3_
       have BK726 := n4_
       have HB := n5_
       clear n0_ n1_ n2_ n3_ n4_ n5_
       clear hb ho47
       refine hK.out _ _ ⟨(blk_cell BK726.out 0).trans rfl, (blk_cell BK726.out 1).trans rfl, (blk_cell BK726.out 2).trans rfl⟩ (fun hHeld => ?_)
       clear hK K
       refine norm_ (a' := ?_) ?_ ?_
       rotate_left
       ·show Act.put _ (some 70) _ = _
        simp only [Act.put, List.setIfInBounds_toArray, List.set_cons_zero, List.set_cons_succ, i64_w, i32_w]
        rfl
       exact norm_ (by simp only [putAll, Act.put, List.setIfInBounds_toArray, List.set_cons_zero, List.set_cons_succ]) (hCont (v729, v732) _ ⟨hHeld, (by (with_reducible repeat (first | apply Kd.R_alloc | apply Kd.R_drewN | apply Kd.R_drew)); exact Kd.R_mono HO730.out (fun _ hk => hk.2)), (by (with_reducible repeat (first | apply Kd.R_alloc | apply Kd.R_drewN | apply Kd.R_drew)); exact Kd.R_mono HO733.out (fun _ hk => hk.2)), (by (with_reducible repeat (first | apply Kd.R_alloc | apply Kd.R_drewN | apply Kd.R_drew)); exact HO_5.out), (by (with_reducible repeat (first | apply Kd.R_alloc | apply Kd.R_drewN | apply Kd.R_drew)); exact HO_8.out), (by (with_reducible repeat (first | refine blk_drewN ?_ _ | refine blk_drew ?_ | refine blk_alloc ?_ _)); exact BK726.out), (by repeat (first | (with_reducible first | exact HB.out | apply below_alloc | apply pw_below_drewN | apply below_drew1 | refine below_set ?_ GE726.out) | exact HB.out))⟩)
      ·skip
       refine Kd.R_lit_step (Kd.int .u8) _ 5 ?hg (N := 70) ?hd (xs := ([(wrap64 (((rd_T38 x5_1 (ji25)).f1) + 128)) % 256] : List Int)) (inner := [.int .u8 ((wrap64 (((rd_T38 x5_1 (ji25)).f1) + 128)) % 256)]) (ok := fun _ => True) (okp := fun _ => True) ?hr ?hp (fun _ hk => hk) trivial (Below.refl _ _) (Nat.le_refl _) (by simp) ?_; (case hd => rfl); (case hg => rfl); (case hr => first | (go_simp; done) | (go_simp; rfl)); (case hp => exact (Reps.one (show Kd.M (Kd.int .u8) _ _ _ ((wrap64 (((rd_T38 x5_1 (ji25)).f1) + 128)) % 256) [.int .u8 ((wrap64 (((rd_T38 x5_1 (ji25)).f1) + 128)) % 256)] from rfl) (Reps.none _ _)))
       intro v732 w45 ho46 hb hg_ hnew_
       clear hg_ hnew_
       (first | rw [← Ny731.out] at ho46 | (simp only [Int.reduceToNat] at ho46; rw [← Ny731.out] at ho46))
       have n0_ := Aside0.mk (Kd.R_below (by (with_reducible repeat (first | apply Kd.R_alloc | apply Kd.R_drewN | apply Kd.R_drew)); exact HO_5.out) hb)
       have n1_ := Aside0.mk (Kd.R_below (by (with_reducible repeat (first | apply Kd.R_alloc | apply Kd.R_drewN | apply Kd.R_drew)); exact HO_8.out) hb)
       have n2_ := Aside0.mk (Kd.R_lower ho46 (below_size (by repeat (first | (with_reducible first | exact HB.out | apply below_alloc | apply pw_below_drewN | apply below_drew1 | refine below_set ?_ GE726.out) | exact HB.out))))
       have n3_ := Aside0.mk (blk_below (g := gb726) (o := .cells #[.int .i64 ((rd_T38 x5_1 (ji25)).f0), .int .i64 ((rd_T38 x5_1 (ji25)).f1), .int .i64 ((rd_T38 x5_1 (ji25)).f2)] 38 (0, 0)) (by (with_reducible repeat (first | refine blk_drewN ?_ _ | refine blk_drew ?_ | refine blk_alloc ?_ _)); exact BK726.out) hb)
       have n4_ := Aside0.mk (below_step (by repeat (first | (with_reducible first | exact HB.out | apply below_alloc | apply pw_below_drewN | apply below_drew1 | refine below_set ?_ GE726.out) | exact HB.out)) hb)
       clear HO_5
       clear HO_8
       clear BK726
       clear HB
       have HO_5 := n0_
       have HO_8 := n1_
       have HO733 := n2_
       have BK726 := n3_
       have HB := n4_
       clear n0_ n1_ n2_ n3_ n4_
       clear hb ho46
       refine hK.out _ _ ⟨(blk_cell BK726.out 0).trans rfl, (blk_cell BK726.out 1).trans rfl, (blk_cell BK726.out 2).trans rfl⟩ (fun hHeld => ?_)
       clear hK K
       refine norm_ (a' := ?_) ?_ ?_
       rotate_left
       ·show Act.put _ (some 70) _ = _
        simp only [Act.put, List.setIfInBounds_toArray, List.set_cons_zero, List.set_cons_succ, i64_w, i32_w]
        rfl
       refine one_ (i := 1) (N := some 65) qm_M19_6 rfl rfl (one_of HT_.out (by kernel_rfl)) (by decide) (fun K hK => ?_)
       refine goes_ Try.func17 (by kernel_rfl) rfl #[.int .i64 0, .int .i64 (rd t722 (ji29))] (by rfl) rfl rfl (by (try simp only [List.map_toArray, List.map_cons, List.map_nil]); first | done | (simp only [hji29]; rfl) | rfl | (simp only [List.length_drop, List.length_take]; rfl)) ?_
       with_reducible refine (sobriquetref13_Escape.calls 0 (rd t722 (ji29)) t728 _ A32.out).mono ?_
       rintro e w47 ⟨v729, rfl, ho0, hb⟩
       refine ⟨_, rfl, ?_⟩
       have n0_ := Aside0.mk (Kd.R_below (by (with_reducible repeat (first | apply Kd.R_alloc | apply Kd.R_drewN | apply Kd.R_drew)); exact HO_5.out) hb)
       have n1_ := Aside0.mk (Kd.R_below (by (with_reducible repeat (first | apply Kd.R_alloc | apply Kd.R_drewN | apply Kd.R_drew)); exact HO_8.out) hb)
       have n2_ := Aside0.mk (Kd.R_elder' (by (with_reducible repeat (first | apply Kd.R_alloc | apply Kd.R_drewN | apply Kd.R_drew)); exact HO733.out) (Kd.R_base ho0) hb)
       have n3_ := Aside0.mk (Kd.R_lower (Kd.R_new' ho0 (Kd.R_lt (by (with_reducible repeat (first | apply Kd.R_alloc | apply Kd.R_drewN | apply Kd.R_drew)); exact HO733.out))) (below_size (by repeat (first | (with_reducible first | exact HB.out | apply below_alloc | apply pw_below_drewN | apply below_drew1 | refine below_set ?_ GE726.out) | exact HB.out))))
       have n4_ := Aside0.mk (blk_below (g := gb726) (o := .cells #[.int .i64 ((rd_T38 x5_1 (ji25)).f0), .int .i64 ((rd_T38 x5_1 (ji25)).f1), .int .i64 ((rd_T38 x5_1 (ji25)).f2)] 38 (0, 0)) (by (with_reducible repeat (first | refine blk_drewN ?_ _ | refine blk_drew ?_ | refine blk_alloc ?_ _)); exact BK726.out) hb)
       have n5_ := Aside0.mk (below_step (by repeat (first | (with_reducible first | exact HB.out | apply below_alloc | apply pw_below_drewN | apply below_drew1 | refine below_set ?_ GE726.out) | exact HB.out)) hb)
       clear HO_5
       clear HO_8
       clear HO733
       clear BK726
       clear HB
       have HO_5 := n0_
       have HO_8 := n1_
       have HO733 := n2_
       have HO730 := n3_
       have BK726 := n4_
       have HB := n5_
       clear n0_ n1_ n2_ n3_ n4_ n5_
       (try clear hb)
       (try clear hb2)
       (try clear hk)
       (try clear hi)
       (try clear ho0)
       refine hK.out _ _ ⟨(blk_cell BK726.out 0).trans rfl, (blk_cell BK726.out 1).trans rfl, (blk_cell BK726.out 2).trans rfl⟩ (fun hHeld => ?_)
       clear hK K
       refine norm_ (a' := ?_) ?_ ?_
       rotate_left
       ·show Act.put _ (some 65) _ = _
        simp only [Act.put, List.setIfInBounds_toArray, List.set_cons_zero, List.set_cons_succ, i64_w, i32_w]
        rfl
       exact norm_ (by simp only [putAll, Act.put, List.setIfInBounds_toArray, List.set_cons_zero, List.set_cons_succ]) (hCont (v729, v732) _ ⟨hHeld, (by (with_reducible repeat (first | apply Kd.R_alloc | apply Kd.R_drewN | apply Kd.R_drew)); exact Kd.R_mono HO730.out (fun _ hk => hk.2)), (by (with_reducible repeat (first | apply Kd.R_alloc | apply Kd.R_drewN | apply Kd.R_drew)); exact Kd.R_mono HO733.out (fun _ hk => hk.2)), (by (with_reducible repeat (first | apply Kd.R_alloc | apply Kd.R_drewN | apply Kd.R_drew)); exact HO_5.out), (by (with_reducible repeat (first | apply Kd.R_alloc | apply Kd.R_drewN | apply Kd.R_drew)); exact HO_8.out), (by (with_reducible repeat (first | refine blk_drewN ?_ _ | refine blk_drew ?_ | refine blk_alloc ?_ _)); exact BK726.out), (by repeat (first | (with_reducible first | exact HB.out | apply below_alloc | apply pw_below_drewN | apply below_drew1 | refine below_set ?_ GE726.out) | exact HB.out))⟩)
     rintro ⟨v729, v732⟩ w48 ⟨hS_, h0_, h1_, h2_, h3_, h4_, h5_⟩
     have n0_ : Aside0 (Kd.R (Kd.int .u8) 5 w48 w.heap.size (fun k_ => some k_ ≠ (v732 : Value).ownBlock) v729 t728) := ⟨h0_⟩
     have n1_ : Aside0 (Kd.R (Kd.int .u8) 5 w48 w.heap.size (fun k_ => some k_ ≠ (v729 : Value).ownBlock) v732 y731) := ⟨h1_⟩
     have n2_ : Aside0 (Kd.R k38 38 w48 w.heap.size (fun k_ => k_ ≠ gb726) (.slice (some ad725) x5_1.length co39) x5_1) := ⟨h2_⟩
     have n3_ : Aside0 (Kd.R (Kd.int .i64) 3 w48 w.heap.size (fun _ => True) (.slice (some ad727) t722.length co42) t722) := ⟨h3_⟩
     have n4_ : Aside0 (w48.heap[gb726]? = some (.cells #[.int .i64 ((rd_T38 x5_1 (ji25)).f0), .int .i64 ((rd_T38 x5_1 (ji25)).f1), .int .i64 ((rd_T38 x5_1 (ji25)).f2)] 38 (0, 0))) := ⟨h4_⟩
     have n5_ : Aside0 (Below w.heap.size w w48) := ⟨h5_⟩
     clear HO_5
     clear HO_8
     clear BK726
     clear HB
     clear h0_ h1_ h2_ h3_ h4_ h5_
     have HO730 := n0_
     have HO733 := n1_
     have HO_5 := n2_
     have HO_8 := n3_
     have BK726 := n4_
     have HB := n5_
     clear n0_ n1_ n2_ n3_ n4_ n5_
     have hHeld : w48.cell? ⟨gb726, 0, none⟩ = some (.int .i64 ((rd_T38 x5_1 (ji25)).f0)) ∧ w48.cell? ⟨gb726, 1, none⟩ = some (.int .i64 ((rd_T38 x5_1 (ji25)).f1)) ∧ w48.cell? ⟨gb726, 2, none⟩ = some (.int .i64 ((rd_T38 x5_1 (ji25)).f2)) := hS_
     obtain ⟨Ao50, co50, eo50⟩ := Kd.R_slice HO733.out
     (first | subst eo50 | (injection eo50 with f1_ f2_ f3_; have f4_ := f1_.symm; have f5_ := f3_.symm; clear f1_ f2_ f3_; subst f4_; subst f5_))
     refine norm_ (a' := ?_) ?_ ?_
     rotate_left
     ·simp only [putAll, Act.put, List.setIfInBounds_toArray, List.set_cons_zero, List.set_cons_succ]
      rfl
     refine one_ (i := 7) (N := some 71) qm_M19_9 rfl rfl (one_of HT_.out (by kernel_rfl)) (by decide) (fun K hK => ?_)
     refine Kd.R_append_rows_step (Kd.int .u8) (w0 := w) w.heap.size (by rfl) (.tmp 65) (.tmp 70) 23 5 (.int .u8 0) 1 rfl Try.underlying23 info5 rfl (by decide) (by omega) v729 t728 y731 _ _ _ (fun k_ => some k_ ≠ (.slice Ao50 y731.length co50 : Value).ownBlock) (fun _ => False) rfl rfl ?aO ?aR (fun _ _ h => h) (fun _ h => h.elim) ?aF ?aB ?aS ?aL ?_
     (case aR => repeat (first | exact (Kd.R_reads' HO733.out).2.2 | (with_reducible refine Kd.C_alloc ?_ _) | (with_reducible refine Kd.C_drewN ?_ _) | (with_reducible refine Kd.C_drew ?_)))
     (case aB => exact (by repeat (first | (with_reducible first | exact HB.out | apply below_alloc | apply pw_below_drewN | apply below_drew1 | refine below_set ?_ GE726.out) | exact HB.out)))
     (case aF => exact (fun k_ hk => Kd.fresh' (Kd.R_lt (by (with_reducible repeat (first | apply Kd.R_alloc | apply Kd.R_drewN | apply Kd.R_drew)); exact HO733.out)) k_ hk))
     (case aO => exact (by (with_reducible repeat (first | apply Kd.R_alloc | apply Kd.R_drewN | apply Kd.R_drew)); exact HO730.out))
     (case aS => exact (below_size (by repeat (first | (with_reducible first | exact HB.out | apply below_alloc | apply pw_below_drewN | apply below_drew1 | refine below_set ?_ GE726.out) | exact HB.out))))
     (case aL => have := LMc33.out; omega)
     intro v735 w49 ho hb hg hat
     rw [← Ny734.out] at ho
     have n0_ := Aside0.mk (Kd.R_over' (by (with_reducible repeat (first | apply Kd.R_alloc | apply Kd.R_drewN | apply Kd.R_drew)); exact HO_5.out) (Kd.R_typed (by (with_reducible repeat (first | apply Kd.R_alloc | apply Kd.R_drewN | apply Kd.R_drew)); exact HO730.out)) (by decide) hg)
     have n1_ := Aside0.mk (Kd.R_over' (by (with_reducible repeat (first | apply Kd.R_alloc | apply Kd.R_drewN | apply Kd.R_drew)); exact HO_8.out) (Kd.R_typed (by (with_reducible repeat (first | apply Kd.R_alloc | apply Kd.R_drewN | apply Kd.R_drew)); exact HO730.out)) (by decide) hg)
     have n2_ := Aside0.mk (blk_grown (g := gb726) (o := .cells #[.int .i64 ((rd_T38 x5_1 (ji25)).f0), .int .i64 ((rd_T38 x5_1 (ji25)).f1), .int .i64 ((rd_T38 x5_1 (ji25)).f2)] 38 (0, 0)) (by (with_reducible repeat (first | refine blk_drewN ?_ _ | refine blk_drew ?_ | refine blk_alloc ?_ _)); exact BK726.out) hg (Kd.R_ne HO730.out BK726.out (by decide)))
     have n3_ := Aside0.mk (Kd.R_after (ok := (fun _ => True)) (by (with_reducible repeat (first | apply Kd.R_alloc | apply Kd.R_drewN | apply Kd.R_drew)); exact Kd.R_mono HO733.out (fun _ hk => ⟨trivial, hk⟩)) hg hat)
     have n4_ := Aside0.mk (hb)
     have n5_ := Aside0.mk (ho)
     clear HO_5
     clear HO_8
     clear BK726
     clear HO733
     clear HB
     clear HO730
     have HO_5 := n0_
     have HO_8 := n1_
     have BK726 := n2_
     have HO733 := n3_
     have HB := n4_
     have HO736 := n5_
     clear n0_ n1_ n2_ n3_ n4_ n5_
     clear ho hb hg hat
     obtain ⟨Ao51, co51, eo51⟩ := Kd.R_slice HO736.out
     (first | subst eo51 | (injection eo51 with f1_ f2_ f3_; have f4_ := f1_.symm; have f5_ := f3_.symm; clear f1_ f2_ f3_; subst f4_; subst f5_))
     refine hK.out _ _ ⟨(blk_cell BK726.out 0).trans rfl, (blk_cell BK726.out 1).trans rfl, (blk_cell BK726.out 2).trans rfl⟩ (fun hHeld => ?_)
     clear hK K
     refine norm_ (a' := ?_) ?_ ?_
     rotate_left
     ·show Act.put _ (some 71) _ = _
      simp only [Act.put, List.setIfInBounds_toArray, List.set_cons_zero, List.set_cons_succ, i64_w, i32_w]
      rfl
     refine one_ (i := 8) (N := some 72) qm_M19_10 rfl rfl (one_of HT_.out (by kernel_rfl)) (by decide) (fun K hK => ?_)
     refine goes_ Try.func13 (by kernel_rfl) rfl #[.slice Ao51 y734.length co51] (by rfl) rfl rfl (by (try simp only [List.map_toArray, List.map_cons, List.map_nil]); first | done | rfl | (simp only [List.length_drop, List.length_take]; rfl)) ?_
     with_reducible refine (teletex_Read.calls kj15 _ _ y734 t737 t738 t739 _ ?side1 ?side2 A34.out).mono ?_
     (case side1 => repeat (first | exact (Kd.R_reads' HO736.out).2.2 | (with_reducible refine Kd.C_alloc ?_ _) | (with_reducible refine Kd.C_drewN ?_ _) | (with_reducible refine Kd.C_drew ?_)))
     (case side2 => exact (Kd.R_reads' HO736.out).2.1)
     rintro e w52 ⟨v740, rfl, ho0, hb⟩
     refine ⟨_, rfl, ?_⟩
     have n0_ := Aside0.mk (Kd.R_below (by (with_reducible repeat (first | apply Kd.R_alloc | apply Kd.R_drewN | apply Kd.R_drew)); exact HO_5.out) hb)
     have n1_ := Aside0.mk (Kd.R_elder' (by (with_reducible repeat (first | apply Kd.R_alloc | apply Kd.R_drewN | apply Kd.R_drew)); exact HO_8.out) (Kd.R_base ho0) hb)
     have n2_ := Aside0.mk (Kd.R_below (by (with_reducible repeat (first | apply Kd.R_alloc | apply Kd.R_drewN | apply Kd.R_drew)); exact HO733.out) hb)
     have n3_ := Aside0.mk (Kd.R_below (by (with_reducible repeat (first | apply Kd.R_alloc | apply Kd.R_drewN | apply Kd.R_drew)); exact HO736.out) hb)
     have n4_ := Aside0.mk (Kd.R_lower (Kd.R_new' ho0 (Kd.R_lt (by (with_reducible repeat (first | apply Kd.R_alloc | apply Kd.R_drewN | apply Kd.R_drew)); exact HO_8.out))) (below_size (by repeat (first | (with_reducible first | exact HB.out | apply below_alloc | apply pw_below_drewN | apply below_drew1 | refine below_set ?_ GE726.out) | exact HB.out))))
     have n5_ := Aside0.mk (blk_below (g := gb726) (o := .cells #[.int .i64 ((rd_T38 x5_1 (ji25)).f0), .int .i64 ((rd_T38 x5_1 (ji25)).f1), .int .i64 ((rd_T38 x5_1 (ji25)).f2)] 38 (0, 0)) (by (with_reducible repeat (first | refine blk_drewN ?_ _ | refine blk_drew ?_ | refine blk_alloc ?_ _)); exact BK726.out) hb)
     have n6_ := Aside0.mk (below_step (by repeat (first | (with_reducible first | exact HB.out | apply below_alloc | apply pw_below_drewN | apply below_drew1 | refine below_set ?_ GE726.out) | exact HB.out)) hb)
     clear HO_5
     clear HO_8
     clear HO733
     clear HO736
     clear BK726
     clear HB
     have HO_5 := n0_
     have HO_8 := n1_
     have HO733 := n2_
     have HO736 := n3_
     have HO741 := n4_
     have BK726 := n5_
     have HB := n6_
     clear n0_ n1_ n2_ n3_ n4_ n5_ n6_
     (try clear hb)
     (try clear hb2)
     (try clear hk)
     (try clear hi)
     (try clear ho0)
     refine hK.out _ _ ⟨(blk_cell BK726.out 0).trans rfl, (blk_cell BK726.out 1).trans rfl, (blk_cell BK726.out 2).trans rfl⟩ (fun hHeld => ?_)
     clear hK K
     refine norm_ (a' := ?_) ?_ ?_
     rotate_left
     ·show Act.put _ (some 72) _ = _
      simp only [Act.put, List.setIfInBounds_toArray, List.set_cons_zero, List.set_cons_succ, i64_w, i32_w]
      rfl
     refine pure_ (i := 9) (N := some 63) (v := ?_) (a' := ?_) qm_M19_11 rfl rfl (any_of HT_.out (by kernel_rfl)) (fun _ _ _ h => h) (Or.inl ⟨by rfl, ?_⟩) ?_ ?_
     rotate_left
     ·intro w'
      go_simp
      with_reducible rfl
     rotate_left
     ·simp only [Act.put, List.setIfInBounds_toArray, List.set_cons_zero, List.set_cons_succ, i64_w, i32_w]
      rfl
     refine pure_ (i := 10) (N := some 73) (v := ?_) (a' := ?_) qm_M19_12 rfl rfl (any_of HT_.out (by kernel_rfl)) (fun _ _ _ h => h) (Or.inl ⟨by rfl, ?_⟩) ?_ ?_
     rotate_left
     ·intro w'
      go_simp
      with_reducible rfl
     rotate_left
     ·simp only [Act.put, List.setIfInBounds_toArray, List.set_cons_zero, List.set_cons_succ, i64_w, i32_w]
      rfl
     refine pure_ (i := 11) (N := some 74) (v := ?_) (a' := ?_) qm_M19_13 rfl rfl (any_of HT_.out (by kernel_rfl)) (fun _ _ _ h => h) (Or.inl ⟨by rfl, ?_⟩) ?_ ?_
     rotate_left
     ·intro w'
      go_simp
      with_reducible rfl
     rotate_left
     ·simp only [Act.put, List.setIfInBounds_toArray, List.set_cons_zero, List.set_cons_succ, i64_w, i32_w]
      rfl
     refine pure_ (i := 12) (N := some 75) (v := ?_) (a' := ?_) qm_M19_14 rfl rfl (any_of HT_.out (by kernel_rfl)) (fun _ _ _ h => h) (Or.inl ⟨by rfl, ?_⟩) ?_ ?_
     rotate_left
     ·intro w'
      go_simp
      with_reducible rfl
     rotate_left
     ·simp only [Act.put, List.setIfInBounds_toArray, List.set_cons_zero, List.set_cons_succ, i64_w, i32_w]
      rfl
     refine pure_ (i := 13) (N := some 11) (v := ?_) (a' := ?_) qm_M19_15 rfl rfl (any_of HT_.out (by kernel_rfl)) (fun _ _ _ h => h) (Or.inl ⟨by rfl, ?_⟩) ?_ ?_
     rotate_left
     ·intro w'
      go_simp
      with_reducible rfl
     rotate_left
     ·simp only [Act.put, List.setIfInBounds_toArray, List.set_cons_zero, List.set_cons_succ, i64_w, i32_w]
      rfl
     refine pure_ (i := 14) (N := some 12) (v := ?_) (a' := ?_) qm_M19_16 rfl rfl (any_of HT_.out (by kernel_rfl)) (fun _ _ _ h => h) (Or.inl ⟨by rfl, ?_⟩) ?_ ?_
     rotate_left
     ·intro w'
      go_simp
      with_reducible rfl
     rotate_left
     ·simp only [Act.put, List.setIfInBounds_toArray, List.set_cons_zero, List.set_cons_succ, i64_w, i32_w]
      rfl
     refine pure_ (i := 15) (N := some 13) (v := ?_) (a' := ?_) qm_M19_17 rfl rfl (any_of HT_.out (by kernel_rfl)) (fun _ _ _ h => h) (Or.inl ⟨by rfl, ?_⟩) ?_ ?_
     rotate_left
     ·intro w'
      go_simp
      with_reducible rfl
     rotate_left
     ·simp only [Act.put, List.setIfInBounds_toArray, List.set_cons_zero, List.set_cons_succ, i64_w, i32_w]
      rfl
     refine done_ (done_of HT_.out (by kernel_rfl)) ?_
     have hcz53_0 : w52.cell? ⟨gb726, 0, none⟩ = some (.int .i64 ((rd_T38 x5_1 (ji25)).f0)) := (blk_cell BK726.out 0).trans rfl
     have hcz53_1 : w52.cell? ⟨gb726, 1, none⟩ = some (.int .i64 ((rd_T38 x5_1 (ji25)).f1)) := (blk_cell BK726.out 1).trans rfl
     have hcz53_2 : w52.cell? ⟨gb726, 2, none⟩ = some (.int .i64 ((rd_T38 x5_1 (ji25)).f2)) := (blk_cell BK726.out 2).trans rfl
     have hfz53_0 := blk_frozen BK726.out 0
     have hfz53_1 := blk_frozen BK726.out 1
     have hfz53_2 := blk_frozen BK726.out 2
     try go_wp2_with (first | ((with_reducible refine gate_dst (N := 82) rfl ?_); (try (refine gate_guard (by rfl) ?_; dsimp only)); refine Kd.R_lit (Kd.int .i64) _ 3 ?hg (N := 82) ?hd (xs := ([(rd_T38 x5_1 (ji25)).f2] : List Int)) (inner := [.int .i64 ((rd_T38 x5_1 (ji25)).f2)]) (ok := fun _ => True) (okp := fun _ => True) ?hr ?hp (fun _ hk => hk) trivial (Below.refl _ _) (Nat.le_refl _) (by simp) ?_; (case hd => rfl); (case hg => rfl); (case hr => first | (go_simp; done) | (go_simp; rfl)); (case hp => exact (Reps.one (show Kd.M (Kd.int .i64) _ _ _ ((rd_T38 x5_1 (ji25)).f2) [.int .i64 ((rd_T38 x5_1 (ji25)).f2)] from rfl) (Reps.none _ _))); intro v743 w54 ho55 hb hg_ hnew_; clear hg_ hnew_; (first | rw [← Ny742.out] at ho55 | (simp only [Int.reduceToNat] at ho55; rw [← Ny742.out] at ho55)); have n0_ := Aside0.mk (Kd.R_below (by (with_reducible repeat (first | apply Kd.R_alloc | apply Kd.R_drewN | apply Kd.R_drew)); exact HO_5.out) hb); have n1_ := Aside0.mk (Kd.R_elder' (by (with_reducible repeat (first | apply Kd.R_alloc | apply Kd.R_drewN | apply Kd.R_drew)); exact HO_8.out) (Kd.R_base ho55) hb); have n2_ := Aside0.mk (Kd.R_below (by (with_reducible repeat (first | apply Kd.R_alloc | apply Kd.R_drewN | apply Kd.R_drew)); exact HO733.out) hb); have n3_ := Aside0.mk (Kd.R_below (by (with_reducible repeat (first | apply Kd.R_alloc | apply Kd.R_drewN | apply Kd.R_drew)); exact HO736.out) hb); have n4_ := Aside0.mk (Kd.R_elder' (by (with_reducible repeat (first | apply Kd.R_alloc | apply Kd.R_drewN | apply Kd.R_drew)); exact HO741.out) (Kd.R_base ho55) hb); have n5_ := Aside0.mk (Kd.R_lower (Kd.R_new' (Kd.R_new' ho55 (Kd.R_lt (by (with_reducible repeat (first | apply Kd.R_alloc | apply Kd.R_drewN | apply Kd.R_drew)); exact HO_8.out))) (Kd.R_lt (by (with_reducible repeat (first | apply Kd.R_alloc | apply Kd.R_drewN | apply Kd.R_drew)); exact HO741.out))) (below_size (by repeat (first | (with_reducible first | exact HB.out | apply below_alloc | apply pw_below_drewN | apply below_drew1 | refine below_set ?_ GE726.out) | exact HB.out)))); have n6_ := Aside0.mk (blk_below (g := gb726) (o := .cells #[.int .i64 ((rd_T38 x5_1 (ji25)).f0), .int .i64 ((rd_T38 x5_1 (ji25)).f1), .int .i64 ((rd_T38 x5_1 (ji25)).f2)] 38 (0, 0)) (by (with_reducible repeat (first | refine blk_drewN ?_ _ | refine blk_drew ?_ | refine blk_alloc ?_ _)); exact BK726.out) hb); have n7_ := Aside0.mk (below_step (by repeat (first | (with_reducible first | exact HB.out | apply below_alloc | apply pw_below_drewN | apply below_drew1 | refine below_set ?_ GE726.out) | exact HB.out)) hb); clear HO_5; clear HO_8; clear HO733; clear HO736; clear HO741; clear BK726; clear HB; have HO_5 := n0_; have HO_8 := n1_; have HO733 := n2_; have HO736 := n3_; have HO741 := n4_; have HO744 := n5_; have BK726 := n6_; have HB := n7_; clear n0_ n1_ n2_ n3_ n4_ n5_ n6_ n7_; clear hb ho55; obtain ⟨Ao56, co56, eo56⟩ := Kd.R_slice HO741.out; subst eo56; obtain ⟨Ao57, co57, eo57⟩ := Kd.R_slice HO744.out; subst eo57) | (go_at_call 14; (with_reducible refine (sobriquetkeep_Ints.calls kj15 _ _ t737 _ _ y742 true _ ?side1 ?side2 ?side3 ?side4 A36.out).mono ?_); (case side1 => repeat (first | exact (Kd.R_reads' HO741.out).2.2 | (with_reducible refine Kd.C_alloc ?_ _) | (with_reducible refine Kd.C_drewN ?_ _) | (with_reducible refine Kd.C_drew ?_))); (case side2 => exact (Kd.R_reads' HO741.out).2.1); (case side3 => repeat (first | exact (Kd.R_reads' HO744.out).2.2 | (with_reducible refine Kd.C_alloc ?_ _) | (with_reducible refine Kd.C_drewN ?_ _) | (with_reducible refine Kd.C_drew ?_))); (case side4 => exact (Kd.R_reads' HO744.out).2.1); rintro e w' ⟨rfl, ⟨nd, rfl⟩⟩) | (go_at_call 12; (with_reducible refine (sobriquetlaw18_wakes.calls  t746 _ A38.out).mono ?_); rintro e w58 ⟨rfl, hb⟩; have n0_ := Aside0.mk (Kd.R_below (by (with_reducible repeat (first | apply Kd.R_alloc | apply Kd.R_drewN | apply Kd.R_drew)); exact HO_5.out) hb); have n1_ := Aside0.mk (Kd.R_below (by (with_reducible repeat (first | apply Kd.R_alloc | apply Kd.R_drewN | apply Kd.R_drew)); exact HO_8.out) hb); have n2_ := Aside0.mk (Kd.R_below (by (with_reducible repeat (first | apply Kd.R_alloc | apply Kd.R_drewN | apply Kd.R_drew)); exact HO733.out) hb); have n3_ := Aside0.mk (Kd.R_below (by (with_reducible repeat (first | apply Kd.R_alloc | apply Kd.R_drewN | apply Kd.R_drew)); exact HO736.out) hb); have n4_ := Aside0.mk (Kd.R_below (by (with_reducible repeat (first | apply Kd.R_alloc | apply Kd.R_drewN | apply Kd.R_drew)); exact HO741.out) hb); have n5_ := Aside0.mk (Kd.R_below (by (with_reducible repeat (first | apply Kd.R_alloc | apply Kd.R_drewN | apply Kd.R_drew)); exact HO744.out) hb); have n6_ := Aside0.mk (blk_below (g := gb726) (o := .cells #[.int .i64 ((rd_T38 x5_1 (ji25)).f0), .int .i64 ((rd_T38 x5_1 (ji25)).f1), .int .i64 ((rd_T38 x5_1 (ji25)).f2)] 38 (0, 0)) (by (with_reducible repeat (first | refine blk_drewN ?_ _ | refine blk_drew ?_ | refine blk_alloc ?_ _)); exact BK726.out) hb); have n7_ := Aside0.mk (below_step (by repeat (first | (with_reducible first | exact HB.out | apply below_alloc | apply pw_below_drewN | apply below_drew1 | refine below_set ?_ GE726.out) | exact HB.out)) hb); clear HO_5; clear HO_8; clear HO733; clear HO736; clear HO741; clear HO744; clear BK726; clear HB; have HO_5 := n0_; have HO_8 := n1_; have HO733 := n2_; have HO736 := n3_; have HO741 := n4_; have HO744 := n5_; have BK726 := n6_; have HB := n7_; clear n0_ n1_ n2_ n3_ n4_ n5_ n6_ n7_; (try clear hb); (try clear hb2); (try clear hk); (try clear hi)))
     go_ret
     exact ⟨by first | rfl | (simp [errW_none, errW_some] <;> rfl) | (simp only [← hji25, ← hji29]; first | rfl | (simp [errW_none, errW_some] <;> rfl)) | (simp [*, errW_none, errW_some] <;> rfl), by repeat (first | (with_reducible first | exact HB.out | apply below_alloc | apply pw_below_drewN | apply below_drew1 | refine below_set ?_ GE726.out) | exact HB.out)⟩

/-- THE ONE PURE STATEMENT of sobriquetlaw18_TeletexDirect: yours. -/
def sobriquetlaw18_TeletexDirect.Pure : Prop := ∀ (a0 : Int) (a1 : Int), (Lit.int .i64 a0).wf = true → (Lit.int .i64 a1).wf = true → ∃ k, sobriquetlaw18_TeletexDirect.f k a0 a1 = some true
theorem sobriquetlaw18_TeletexDirect.walk (P : sobriquetlaw18_TeletexDirect.Pure) (a0 : Int) (a1 : Int) (w : World) (w0 : (Lit.int .i64 a0).wf = true) (w1 : (Lit.int .i64 a1).wf = true) :
  Calls Try.prog 9 #[.int .i64 a0, .int .i64 a1] w fun e w' => e = .returned (.bool true) ∧ Below w.heap.size w w' := by
 obtain ⟨k, h⟩ := P a0 a1 w0 w1
 refine (sobriquetlaw18_TeletexDirect.calls k a0 a1 true w h).mono ?_
 rintro e w' ⟨rfl, hd⟩
 exact ⟨rfl, hd⟩

end Go.Proofs.Ytgcdfchchphpjaa.M
