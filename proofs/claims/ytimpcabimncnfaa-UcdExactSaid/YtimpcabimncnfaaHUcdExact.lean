/- Proved here, by hand: for any numbers c and b the statement UcdExact returns true. -/
import Derived.Test.YtimpcabimncnfaaHTables
import Derived.Test.YtimpcabimncnfaaLKeep
import Derived.Test.YtimpcabimncnfaaM14
namespace Go.Proofs.Ytimpcabimncnfaa.M
set_option linter.unusedVariables false
set_option linter.unusedSimpArgs false
open Go.RowKit Go.Proofs.YtimpcabimncnfaaW.PrintWords Go.Proofs.YtimpcabimncnfaaW.PrintLast Go.Proofs.YtimpcabimncnfaaW.PrintMore

theorem drawn_below {w W : World} (h : Drawn0 w W) : Below w.heap.size w W := by
  obtain ⟨nd, rfl⟩ := h
  exact pw_below_drewN (Below.refl _ _) nd
theorem RefScalar_f (c : Int) : sobriquetref05_Scalar.f c = some (sca c) := by
  unfold sobriquetref05_Scalar.f sobriquetref05_in.f sca
  by_cases h1 : c ≥ 0
  · rw [if_pos h1, Option.bind_some]
    by_cases h2 : c ≤ 1114111
    · rw [decide_eq_true h2, if_pos rfl]
      by_cases h3 : c ≥ 55296
      · rw [if_pos h3, Option.bind_some]
        congr 1
        by_cases h4 : c ≤ 57343
        · rw [decide_eq_true h4, decide_eq_false (by omega)]; rfl
        · rw [decide_eq_false h4, decide_eq_true (by omega)]; rfl
      · rw [if_neg h3, Option.bind_some, decide_eq_true (by omega)]; rfl
    · rw [decide_eq_false h2, if_neg Bool.false_ne_true, decide_eq_false (by omega)]
  · rw [if_neg h1, Option.bind_some, if_neg Bool.false_ne_true, decide_eq_false (by omega)]
theorem class_tab : api_Classes.tbl.all (fun x => decide (0 ≤ x.f0 ∧ x.f1 ≤ 1114111 ∧ (x.f1 < 55296 ∨ 57343 < x.f0))) = true := by decide +kernel
theorem flat_scalar (c : Int) (hc : ¬ sca c = true) : ∀ (l : List S26), (l.all (fun x => decide (0 ≤ x.f0 ∧ x.f1 ≤ 1114111 ∧ (x.f1 < 55296 ∨ 57343 < x.f0)))) = true → flat l c = 0
  | [], _ => rfl
  | x :: t, h => by
    simp only [List.all_cons, Bool.and_eq_true, decide_eq_true_eq] at h
    have hc2 : ¬ (0 ≤ c ∧ c ≤ 1114111 ∧ (c < 55296 ∨ 57343 < c)) := by simpa [sca] using hc
    unfold flat
    rw [flat_scalar c hc t h.2]
    split
    · rw [if_neg (by omega)]
    · rfl
theorem class_flat (c : Int) : flat api_Classes.tbl c = classOf c := by
  unfold classOf
  by_cases h : sca c = true
  · rw [if_pos h]
  · rw [if_neg h]
    exact flat_scalar c h _ class_tab
theorem RefClass_f (c : Int) (k : Nat) (hk : 300 ≤ k) : sobriquetref05_Class.f k c = some (classOf c) := by
  unfold sobriquetref05_Class.f api_Classes.f
  rw [Option.bind_some, Look_f _ _ k (by decide) (by have : api_Classes.tbl.length < 300 := by decide
                                                     omega), Option.bind_some, class_flat]
theorem refHas_f (t : List S26) (ht : t.length < 300) (c : Int) (k : Nat) (hk : 300 ≤ k) : sobriquetref05_has.f k t c = some (hasOf t c) := by
  unfold sobriquetref05_has.f
  rw [RefScalar_f, Option.bind_some, Look_f _ _ k (by omega) (by omega)]
  unfold hasOf
  cases sca c <;> simp
theorem RefAssigned_f (c : Int) (k : Nat) (hk : 300 ≤ k) : sobriquetref05_Assigned.f k c = some (hasOf api_Assigned.tbl c) := by
  unfold sobriquetref05_Assigned.f api_Assigned.f
  rw [Option.bind_some, refHas_f _ (by decide) c k hk]; rfl
theorem RefNothing_f (c : Int) (k : Nat) (hk : 300 ≤ k) : sobriquetref05_Nothing.f k c = some (hasOf api_Nothing.tbl c) := by
  unfold sobriquetref05_Nothing.f api_Nothing.f
  rw [Option.bind_some, refHas_f _ (by decide) c k hk]; rfl
theorem RefSpace_f (c : Int) (k : Nat) (hk : 300 ≤ k) : sobriquetref05_Space.f k c = some (hasOf api_Spaces.tbl c) := by
  unfold sobriquetref05_Space.f api_Spaces.f
  rw [Option.bind_some, refHas_f _ (by decide) c k hk]; rfl
theorem RefProhibited_f (c : Int) (k : Nat) (hk : 300 ≤ k) : sobriquetref05_Prohibited.f k c = some (hasOf api_Prohibited.tbl c) := by
  unfold sobriquetref05_Prohibited.f api_Prohibited.f
  rw [Option.bind_some, refHas_f _ (by decide) c k hk]; rfl

/-! ### the pair of the reference -/
theorem pairIn_none (a b : Int) : ∀ (l : List S41) (n : Int) (y : Bool), (∀ x ∈ l, ¬ (x.f1 = a ∧ x.f2 = b)) → pairIn a b l n y = (n, y)
  | [], _, _, _ => rfl
  | x :: t, n, y, h => by
    unfold pairIn
    rw [if_neg (fun h1 => h x List.mem_cons_self (by simp only [okPair, Bool.and_eq_true, decide_eq_true_eq] at h1; exact ⟨h1.1.1.1.1.1, h1.1.1.1.1.2⟩))]
    exact pairIn_none a b t n y (fun z hz => h z (List.mem_cons_of_mem _ hz))
theorem refPair_none (a b : Int) : ∀ (l : List S41), (∀ x ∈ l, ¬ (x.f1 = a ∧ x.f2 = b)) → refPair a b l = (0, false)
  | [], _ => rfl
  | x :: t, h => by
    unfold refPair
    rw [if_neg (fun h1 => h x List.mem_cons_self (by simp only [okRef, Bool.and_eq_true, decide_eq_true_eq] at h1; exact ⟨h1.1.1.1.1.2, h1.1.1.1.2⟩))]
    exact refPair_none a b t (fun z hz => h z (List.mem_cons_of_mem _ hz))
set_option maxRecDepth 1000000 in
theorem pair_tab : canonT.all (fun x => decide (refPair x.f1 x.f2 canonT = pairOf x.f1 x.f2)) = true := by decide +kernel
theorem pair_same (a b : Int) : refPair a b canonT = pairOf a b := by
  by_cases h : ∃ x ∈ canonT, x.f1 = a ∧ x.f2 = b
  · obtain ⟨x, hx, rfl, rfl⟩ := h
    exact of_decide_eq_true (List.all_eq_true.1 pair_tab x hx)
  · have h2 : ∀ x ∈ canonT, ¬ (x.f1 = a ∧ x.f2 = b) := fun x hx e => h ⟨x, hx, e⟩
    rw [refPair_none a b _ h2, pairOf, pairIn_none a b _ _ _ h2]

theorem ucd_Canon_at (c : Int) : ucd_Canon.f c = some (look41 canonT c) := rfl
theorem ucd_Compat_at (c : Int) : ucd_Compat.f c = some (look43 compatT c) := rfl
theorem ucd_Fold_at (c : Int) : ucd_Fold.f c = some (look43 foldsT c) := rfl
theorem tcanon_at (c : Int) (L : List Int) (h : look41 canonT c = L) (g : Nat) (w : World) (hT : TH w g) : Calls Try.prog 36 #[.pointer (some ⟨g, 0, none⟩), .int .i64 c] w fun e w' => ∃ v, e = .returned v ∧ Kd.R (Kd.int .i64) 3 w' w.heap.size (fun _ => True) v L ∧ Below w.heap.size w w' := by
  rw [← h]; exact tcanon_calls c g w hT
theorem tcompat_at (c : Int) (L : List Int) (h : look43 compatT c = L) (g : Nat) (w : World) (hT : TH w g) : Calls Try.prog 37 #[.pointer (some ⟨g, 0, none⟩), .int .i64 c] w fun e w' => ∃ v, e = .returned v ∧ Kd.R (Kd.int .i64) 3 w' w.heap.size (fun _ => True) v L ∧ Below w.heap.size w w' := by
  rw [← h]; exact tcompat_calls c g w hT
theorem tfold_at (c : Int) (L : List Int) (h : look43 foldsT c = L) (g : Nat) (w : World) (hT : TH w g) : Calls Try.prog 38 #[.pointer (some ⟨g, 0, none⟩), .int .i64 c] w fun e w' => ∃ v, e = .returned v ∧ Kd.R (Kd.int .i64) 3 w' w.heap.size (fun _ => True) v L ∧ Below w.heap.size w w' := by
  rw [← h]; exact tfold_calls c g w hT
set_option maxRecDepth 100000 in
set_option maxHeartbeats 8000000 in
theorem sobriquetlaw06_UcdExact.walk (a0 : Int) (a1 : Int) (w : World) (w0 : (Lit.int .i64 a0).wf = true) (w1 : (Lit.int .i64 a1).wf = true) :
    Calls Try.prog 6 #[.int .i64 a0, .int .i64 a1] w fun e w' => e = .returned (.bool true) ∧ Below w.heap.size w w' := by
  clear w0 w1
  obtain ⟨⟨m, ok⟩, hp⟩ : ∃ x, pairOf a0 a1 = x := ⟨_, rfl⟩
  have HP : Aside0 (ucd_Pair.f 4000 a0 a1 = some (m, ok)) := ⟨by rw [Pair_f _ _ _ (by decide), hp]⟩
  have HQ : Aside0 (refPair a0 a1 canonT = (m, ok)) := ⟨by rw [pair_same, hp]⟩
  clear hp
  obtain ⟨sc, hs⟩ : ∃ x, sca a0 = x := ⟨_, rfl⟩
  have ES1 : Aside0 (ucd_Scalar.f a0 = some sc) := ⟨by rw [Scalar_f, hs]⟩
  have ES2 : Aside0 (sobriquetref05_Scalar.f a0 = some sc) := ⟨by rw [RefScalar_f, hs]⟩
  clear hs
  obtain ⟨cl, hs⟩ : ∃ x, classOf a0 = x := ⟨_, rfl⟩
  have EC1 : Aside0 (ucd_Class.f 4000 a0 = some cl) := ⟨by rw [Class_f _ _ (by decide), hs]⟩
  have EC2 : Aside0 (sobriquetref05_Class.f 4000 a0 = some cl) := ⟨by rw [RefClass_f _ _ (by decide), hs]⟩
  clear hs
  obtain ⟨vAssigned, hs⟩ : ∃ x, hasOf api_Assigned.tbl a0 = x := ⟨_, rfl⟩
  have EAssigned1 : Aside0 (ucd_Assigned.f 4000 a0 = some vAssigned) := ⟨by rw [Assigned_f _ _ (by decide), hs]⟩
  have EAssigned2 : Aside0 (sobriquetref05_Assigned.f 4000 a0 = some vAssigned) := ⟨by rw [RefAssigned_f _ _ (by decide), hs]⟩
  clear hs
  obtain ⟨vNothing, hs⟩ : ∃ x, hasOf api_Nothing.tbl a0 = x := ⟨_, rfl⟩
  have ENothing1 : Aside0 (ucd_Nothing.f 4000 a0 = some vNothing) := ⟨by rw [Nothing_f _ _ (by decide), hs]⟩
  have ENothing2 : Aside0 (sobriquetref05_Nothing.f 4000 a0 = some vNothing) := ⟨by rw [RefNothing_f _ _ (by decide), hs]⟩
  clear hs
  obtain ⟨vSpace, hs⟩ : ∃ x, hasOf api_Spaces.tbl a0 = x := ⟨_, rfl⟩
  have ESpace1 : Aside0 (ucd_Space.f 4000 a0 = some vSpace) := ⟨by rw [Space_f _ _ (by decide), hs]⟩
  have ESpace2 : Aside0 (sobriquetref05_Space.f 4000 a0 = some vSpace) := ⟨by rw [RefSpace_f _ _ (by decide), hs]⟩
  clear hs
  obtain ⟨vProhibited, hs⟩ : ∃ x, hasOf api_Prohibited.tbl a0 = x := ⟨_, rfl⟩
  have EProhibited1 : Aside0 (ucd_Prohibited.f 4000 a0 = some vProhibited) := ⟨by rw [Prohibited_f _ _ (by decide), hs]⟩
  have EProhibited2 : Aside0 (sobriquetref05_Prohibited.f 4000 a0 = some vProhibited) := ⟨by rw [RefProhibited_f _ _ (by decide), hs]⟩
  clear hs
  obtain ⟨L1, E1⟩ : ∃ x, Aside0 (look41 canonT a0 = x) := ⟨_, ⟨rfl⟩⟩
  have EICanon : Aside0 (sobriquetkeep_Ints.f 4000 L1 L1 = some true) := ⟨by rw [Ints_f _ _ _ (by rw [← E1.out]; have := look_len41 canonT a0; omega) (by rw [← E1.out]; have := look_len41 canonT a0; omega)]; simp⟩
  obtain ⟨L2, E2⟩ : ∃ x, Aside0 (look43 compatT a0 = x) := ⟨_, ⟨rfl⟩⟩
  have EICompat : Aside0 (sobriquetkeep_Ints.f 4000 L2 L2 = some true) := ⟨by rw [Ints_f _ _ _ (by rw [← E2.out]; have := look_len43 1000 compatT a0 compatT_all; omega) (by rw [← E2.out]; have := look_len43 1000 compatT a0 compatT_all; omega)]; simp⟩
  obtain ⟨L3, E3⟩ : ∃ x, Aside0 (look43 foldsT a0 = x) := ⟨_, ⟨rfl⟩⟩
  have EIFold : Aside0 (sobriquetkeep_Ints.f 4000 L3 L3 = some true) := ⟨by rw [Ints_f _ _ _ (by rw [← E3.out]; have := look_len43 1000 foldsT a0 foldsT_all; omega) (by rw [← E3.out]; have := look_len43 1000 foldsT a0 foldsT_all; omega)]; simp⟩
  go_enter Try.func6, Try.ntmps6
  go_wp2_with (first
    | (go_at_call 28; (with_reducible refine (all_calls _).mono ?_); rintro e w1 ⟨g, rfl, ht, hb⟩; have HT := Aside0.mk ht; have HB := Aside0.mk hb; clear ht hb)
    | (go_at_call 19; (with_reducible refine (ucd_Pair.calls 4000 a0 a1 m ok _ HP.out).mono ?_); rintro e w2 ⟨rfl, hb⟩; have HB_ := Aside0.mk (below_step HB.out hb); clear HB; have HB := HB_; clear HB_; have HT_ := Aside0.mk (HT.out.below hb); clear HT; have HT := HT_; clear HT_; clear hb)
    | (go_at_call 29; (with_reducible refine (tpair_calls a0 a1 m ok HQ.out g _ HT.out).mono ?_); rintro e w3 ⟨rfl, hb⟩; have HB_ := Aside0.mk (below_step HB.out hb); clear HB; have HB := HB_; clear HB_; have HT_ := Aside0.mk (HT.out.below hb); clear HT; have HT := HT_; clear HT_; clear hb)
    | (go_at_call 22; (with_reducible refine (ucd_Scalar.calls a0 sc _ ES1.out).mono ?_); rintro e w4 ⟨rfl, hd⟩; have hb := drawn_below hd; clear hd; have HB_ := Aside0.mk (below_step HB.out hb); clear HB; have HB := HB_; clear HB_; have HT_ := Aside0.mk (HT.out.below hb); clear HT; have HT := HT_; clear HT_; clear hb)
    | (go_at_call 30; (with_reducible refine (sobriquetref05_Scalar.calls a0 sc _ ES2.out).mono ?_); rintro e w5 ⟨rfl, hd⟩; have hb := drawn_below hd; clear hd; have HB_ := Aside0.mk (below_step HB.out hb); clear HB; have HB := HB_; clear HB_; have HT_ := Aside0.mk (HT.out.below hb); clear HT; have HT := HT_; clear HT_; clear hb)
    | (go_at_call 13; (with_reducible refine (ucd_Class.calls 4000 a0 cl _ EC1.out).mono ?_); rintro e w6 ⟨rfl, hb⟩; have HB_ := Aside0.mk (below_step HB.out hb); clear HB; have HB := HB_; clear HB_; have HT_ := Aside0.mk (HT.out.below hb); clear HT; have HT := HT_; clear HT_; clear hb)
    | (go_at_call 31; (with_reducible refine (sobriquetref05_Class.calls 4000 a0 cl _ EC2.out).mono ?_); rintro e w7 ⟨rfl, hb⟩; have HB_ := Aside0.mk (below_step HB.out hb); clear HB; have HB := HB_; clear HB_; have HT_ := Aside0.mk (HT.out.below hb); clear HT; have HT := HT_; clear HT_; clear hb)
    | (go_at_call 15; (with_reducible refine (ucd_Assigned.calls 4000 a0 vAssigned _ EAssigned1.out).mono ?_); rintro e w8 ⟨rfl, hb⟩; have HB_ := Aside0.mk (below_step HB.out hb); clear HB; have HB := HB_; clear HB_; have HT_ := Aside0.mk (HT.out.below hb); clear HT; have HT := HT_; clear HT_; clear hb)
    | (go_at_call 32; (with_reducible refine (sobriquetref05_Assigned.calls 4000 a0 vAssigned _ EAssigned2.out).mono ?_); rintro e w9 ⟨rfl, hb⟩; have HB_ := Aside0.mk (below_step HB.out hb); clear HB; have HB := HB_; clear HB_; have HT_ := Aside0.mk (HT.out.below hb); clear HT; have HT := HT_; clear HT_; clear hb)
    | (go_at_call 16; (with_reducible refine (ucd_Nothing.calls 4000 a0 vNothing _ ENothing1.out).mono ?_); rintro e w10 ⟨rfl, hb⟩; have HB_ := Aside0.mk (below_step HB.out hb); clear HB; have HB := HB_; clear HB_; have HT_ := Aside0.mk (HT.out.below hb); clear HT; have HT := HT_; clear HT_; clear hb)
    | (go_at_call 33; (with_reducible refine (sobriquetref05_Nothing.calls 4000 a0 vNothing _ ENothing2.out).mono ?_); rintro e w11 ⟨rfl, hb⟩; have HB_ := Aside0.mk (below_step HB.out hb); clear HB; have HB := HB_; clear HB_; have HT_ := Aside0.mk (HT.out.below hb); clear HT; have HT := HT_; clear HT_; clear hb)
    | (go_at_call 17; (with_reducible refine (ucd_Space.calls 4000 a0 vSpace _ ESpace1.out).mono ?_); rintro e w12 ⟨rfl, hb⟩; have HB_ := Aside0.mk (below_step HB.out hb); clear HB; have HB := HB_; clear HB_; have HT_ := Aside0.mk (HT.out.below hb); clear HT; have HT := HT_; clear HT_; clear hb)
    | (go_at_call 34; (with_reducible refine (sobriquetref05_Space.calls 4000 a0 vSpace _ ESpace2.out).mono ?_); rintro e w13 ⟨rfl, hb⟩; have HB_ := Aside0.mk (below_step HB.out hb); clear HB; have HB := HB_; clear HB_; have HT_ := Aside0.mk (HT.out.below hb); clear HT; have HT := HT_; clear HT_; clear hb)
    | (go_at_call 18; (with_reducible refine (ucd_Prohibited.calls 4000 a0 vProhibited _ EProhibited1.out).mono ?_); rintro e w14 ⟨rfl, hb⟩; have HB_ := Aside0.mk (below_step HB.out hb); clear HB; have HB := HB_; clear HB_; have HT_ := Aside0.mk (HT.out.below hb); clear HT; have HT := HT_; clear HT_; clear hb)
    | (go_at_call 35; (with_reducible refine (sobriquetref05_Prohibited.calls 4000 a0 vProhibited _ EProhibited2.out).mono ?_); rintro e w15 ⟨rfl, hb⟩; have HB_ := Aside0.mk (below_step HB.out hb); clear HB; have HB := HB_; clear HB_; have HT_ := Aside0.mk (HT.out.below hb); clear HT; have HT := HT_; clear HT_; clear hb)
    | (go_at_call 20; (with_reducible refine (ucd_Canon.calls a0 L1 _ (by rw [← E1.out]; exact ucd_Canon_at a0)).mono ?_); rintro e w16 ⟨v16, rfl, ho, hb⟩; have HB_ := Aside0.mk (below_step HB.out hb); clear HB; have HB := HB_; clear HB_; have HT_ := Aside0.mk (HT.out.below hb); clear HT; have HT := HT_; clear HT_; obtain ⟨ACanon1, cCanon1, ev⟩ := Kd.R_slice ho; subst ev; have lCanon1 := (Kd.R_reads' ho).2.1; have RCanon1 := Aside0.mk (Kd.R_reads' ho).2.2; clear hb ho)
    | (go_at_call 36; (with_reducible refine (tcanon_at a0 L1 E1.out g _ HT.out).mono ?_); rintro e w17 ⟨v17, rfl, ho, hb⟩; have HB_ := Aside0.mk (below_step HB.out hb); clear HB; have HB := HB_; clear HB_; have HT_ := Aside0.mk (HT.out.below hb); clear HT; have HT := HT_; clear HT_; have RCanon1_ := Aside0.mk (Kd.C_below RCanon1.out hb); clear RCanon1; have RCanon1 := RCanon1_; clear RCanon1_; obtain ⟨ACanon2, cCanon2, ev⟩ := Kd.R_slice ho; subst ev; have lCanon2 := (Kd.R_reads' ho).2.1; have RCanon2 := Aside0.mk (Kd.R_reads' ho).2.2; clear hb ho)
    | (go_at_call 21; (with_reducible refine (sobriquetkeep_Ints.calls 4000 ACanon1 cCanon1 L1 ACanon2 cCanon2 L1 true _ RCanon1.out lCanon1 RCanon2.out lCanon2 EICanon.out).mono ?_); rintro e w18 ⟨rfl, hd⟩; have hb := drawn_below hd; clear hd; have HB_ := Aside0.mk (below_step HB.out hb); clear HB; have HB := HB_; clear HB_; have HT_ := Aside0.mk (HT.out.below hb); clear HT; have HT := HT_; clear HT_; have RCanon1_ := Aside0.mk (Kd.C_below RCanon1.out hb); clear RCanon1; have RCanon1 := RCanon1_; clear RCanon1_; have RCanon2_ := Aside0.mk (Kd.C_below RCanon2.out hb); clear RCanon2; have RCanon2 := RCanon2_; clear RCanon2_; clear hb)
    | (go_at_call 23; (with_reducible refine (ucd_Compat.calls a0 L2 _ (by rw [← E2.out]; exact ucd_Compat_at a0)).mono ?_); rintro e w19 ⟨v19, rfl, ho, hb⟩; have HB_ := Aside0.mk (below_step HB.out hb); clear HB; have HB := HB_; clear HB_; have HT_ := Aside0.mk (HT.out.below hb); clear HT; have HT := HT_; clear HT_; obtain ⟨ACompat1, cCompat1, ev⟩ := Kd.R_slice ho; subst ev; have lCompat1 := (Kd.R_reads' ho).2.1; have RCompat1 := Aside0.mk (Kd.R_reads' ho).2.2; clear hb ho)
    | (go_at_call 37; (with_reducible refine (tcompat_at a0 L2 E2.out g _ HT.out).mono ?_); rintro e w20 ⟨v20, rfl, ho, hb⟩; have HB_ := Aside0.mk (below_step HB.out hb); clear HB; have HB := HB_; clear HB_; have HT_ := Aside0.mk (HT.out.below hb); clear HT; have HT := HT_; clear HT_; have RCompat1_ := Aside0.mk (Kd.C_below RCompat1.out hb); clear RCompat1; have RCompat1 := RCompat1_; clear RCompat1_; obtain ⟨ACompat2, cCompat2, ev⟩ := Kd.R_slice ho; subst ev; have lCompat2 := (Kd.R_reads' ho).2.1; have RCompat2 := Aside0.mk (Kd.R_reads' ho).2.2; clear hb ho)
    | (go_at_call 21; (with_reducible refine (sobriquetkeep_Ints.calls 4000 ACompat1 cCompat1 L2 ACompat2 cCompat2 L2 true _ RCompat1.out lCompat1 RCompat2.out lCompat2 EICompat.out).mono ?_); rintro e w21 ⟨rfl, hd⟩; have hb := drawn_below hd; clear hd; have HB_ := Aside0.mk (below_step HB.out hb); clear HB; have HB := HB_; clear HB_; have HT_ := Aside0.mk (HT.out.below hb); clear HT; have HT := HT_; clear HT_; have RCompat1_ := Aside0.mk (Kd.C_below RCompat1.out hb); clear RCompat1; have RCompat1 := RCompat1_; clear RCompat1_; have RCompat2_ := Aside0.mk (Kd.C_below RCompat2.out hb); clear RCompat2; have RCompat2 := RCompat2_; clear RCompat2_; clear hb)
    | (go_at_call 27; (with_reducible refine (ucd_Fold.calls a0 L3 _ (by rw [← E3.out]; exact ucd_Fold_at a0)).mono ?_); rintro e w22 ⟨v22, rfl, ho, hb⟩; have HB_ := Aside0.mk (below_step HB.out hb); clear HB; have HB := HB_; clear HB_; have HT_ := Aside0.mk (HT.out.below hb); clear HT; have HT := HT_; clear HT_; obtain ⟨AFold1, cFold1, ev⟩ := Kd.R_slice ho; subst ev; have lFold1 := (Kd.R_reads' ho).2.1; have RFold1 := Aside0.mk (Kd.R_reads' ho).2.2; clear hb ho)
    | (go_at_call 38; (with_reducible refine (tfold_at a0 L3 E3.out g _ HT.out).mono ?_); rintro e w23 ⟨v23, rfl, ho, hb⟩; have HB_ := Aside0.mk (below_step HB.out hb); clear HB; have HB := HB_; clear HB_; have HT_ := Aside0.mk (HT.out.below hb); clear HT; have HT := HT_; clear HT_; have RFold1_ := Aside0.mk (Kd.C_below RFold1.out hb); clear RFold1; have RFold1 := RFold1_; clear RFold1_; obtain ⟨AFold2, cFold2, ev⟩ := Kd.R_slice ho; subst ev; have lFold2 := (Kd.R_reads' ho).2.1; have RFold2 := Aside0.mk (Kd.R_reads' ho).2.2; clear hb ho)
    | (go_at_call 21; (with_reducible refine (sobriquetkeep_Ints.calls 4000 AFold1 cFold1 L3 AFold2 cFold2 L3 true _ RFold1.out lFold1 RFold2.out lFold2 EIFold.out).mono ?_); rintro e w24 ⟨rfl, hd⟩; have hb := drawn_below hd; clear hd; have HB_ := Aside0.mk (below_step HB.out hb); clear HB; have HB := HB_; clear HB_; have HT_ := Aside0.mk (HT.out.below hb); clear HT; have HT := HT_; clear HT_; have RFold1_ := Aside0.mk (Kd.C_below RFold1.out hb); clear RFold1; have RFold1 := RFold1_; clear RFold1_; have RFold2_ := Aside0.mk (Kd.C_below RFold2.out hb); clear RFold2; have RFold2 := RFold2_; clear RFold2_; clear hb)
    | (go_at_call 14; (with_reducible refine (sobriquetlaw06_wakes.calls 4000 true _ (wakes06 4000 (by decide))).mono ?_); rintro e w25 ⟨rfl, hb⟩; have HB_ := Aside0.mk (below_step HB.out hb); clear HB; have HB := HB_; clear HB_; have HT_ := Aside0.mk (HT.out.below hb); clear HT; have HT := HT_; clear HT_; clear hb))
  go_ret
  exact ⟨rfl, HB.out⟩
end Go.Proofs.Ytimpcabimncnfaa.M
