/- Proved here, by hand: what the methods of sobriquetref05.Tables come to. -/
import Derived.Test.YtimpcabimncnfaaM14
import Derived.Test.YtimpcabimncnfaaM3
import Derived.Test.YtimpcabimncnfaaM10
import Derived.Test.YtimpcabimncnfaaM7
import Derived.Test.YtimpcabimncnfaaLUcd
import Derived.OneCell
import Derived.Outline
namespace Go.Proofs.Ytimpcabimncnfaa.M
set_option linter.unusedVariables false
set_option linter.unusedSimpArgs false
open Go.RowKit Go.Proofs.YtimpcabimncnfaaW.PrintWords Go.Proofs.YtimpcabimncnfaaW.PrintLast Go.Proofs.YtimpcabimncnfaaW.PrintMore

/-- The reference's tables at block g. -/
def TH (W : World) (g : Nat) : Prop := ∃ A1 c1 A2 c2 A3 c3 A4 c4 A5 c5,
  W.heap[g]? = some (.cells #[.slice A1 canonT.length c1, .slice A2 compatT.length c2, .slice A3 foldsT.length c3, .slice A4 exclL.length c4, .slice A5 api_Classes.tbl.length c5] 60 (0, 0)) ∧
  (Kd.C k41 W A1 canonT.length canonT ∧ canonT.length ≤ c1) ∧ (Kd.C k43 W A2 compatT.length compatT ∧ compatT.length ≤ c2) ∧ (Kd.C k43 W A3 foldsT.length foldsT ∧ foldsT.length ≤ c3) ∧
  (Kd.C (Kd.int .i64) W A4 exclL.length exclL ∧ exclL.length ≤ c4) ∧ (Kd.C k26 W A5 api_Classes.tbl.length api_Classes.tbl ∧ api_Classes.tbl.length ≤ c5)
theorem TH.below {W W1 : World} {g : Nat} (h : TH W g) (hb : Below W.heap.size W W1) : TH W1 g := by
  obtain ⟨A1, c1, A2, c2, A3, c3, A4, c4, A5, c5, hg, h1, h2, h3, h4, h5⟩ := h
  exact ⟨A1, c1, A2, c2, A3, c3, A4, c4, A5, c5, (hb.block g (lt_of_block hg)).trans hg, ⟨Kd.C_below h1.1 hb, h1.2⟩, ⟨Kd.C_below h2.1 hb, h2.2⟩, ⟨Kd.C_below h3.1 hb, h3.2⟩, ⟨Kd.C_below h4.1 hb, h4.2⟩, ⟨Kd.C_below h5.1 hb, h5.2⟩⟩

/-! ### All -/
theorem excl_eq : api_Excluded.f = some exclL := rfl
theorem classes_eq : api_Classes.f = some api_Classes.tbl := rfl
set_option maxRecDepth 100000 in
set_option maxHeartbeats 2000000 in
theorem all_calls (w : World) : Calls Try.prog 28 #[] w fun e w' => ∃ g, e = .returned (.pointer (some ⟨g, 0, none⟩)) ∧ TH w' g ∧ Below w.heap.size w w' := by
  go_enter Try.func28, Try.ntmps28
  obtain ⟨L1, E1⟩ : ∃ l, Aside0 (canonT = l) := ⟨_, ⟨rfl⟩⟩
  obtain ⟨L2, E2⟩ : ∃ l, Aside0 (compatT = l) := ⟨_, ⟨rfl⟩⟩
  obtain ⟨L3, E3⟩ : ∃ l, Aside0 (foldsT = l) := ⟨_, ⟨rfl⟩⟩
  obtain ⟨L4, E4⟩ : ∃ l, Aside0 (exclL = l) := ⟨_, ⟨rfl⟩⟩
  obtain ⟨L5, E5⟩ : ∃ l, Aside0 (api_Classes.tbl = l) := ⟨_, ⟨rfl⟩⟩
  go_wp2_with (first
    | (go_at_call 24; (with_reducible refine (api_Canon.calls 300 L1 _ (by rw [← E1.out]; exact canonT_eq)).mono ?_); rintro e w1 ⟨v1, rfl, ho, hb⟩; obtain ⟨A1, c1, ev⟩ := Kd.R_slice ho; subst ev; have hl1 := (Kd.R_reads' ho).2.1; have H1 := Aside0.mk (Kd.R_reads' ho).2.2; have HB := Aside0.mk hb; clear ho hb)
    | (go_at_call 25; (with_reducible refine (api_Compat.calls 300 L2 _ (by rw [← E2.out]; exact compatT_eq)).mono ?_); rintro e w2 ⟨v2, rfl, ho, hb⟩; obtain ⟨A2, c2, ev⟩ := Kd.N_slice ho; subst ev; have hl2 := (Kd.N_reads' ho).2.1; have H2 := Aside0.mk (Kd.N_reads' ho).2.2; have HB2 := Aside0.mk (below_step HB.out hb); have H12 := Aside0.mk (Kd.C_below H1.out hb); clear ho hb H1 HB)
    | (go_at_call 26; (with_reducible refine (api_Folds.calls 300 L3 _ (by rw [← E3.out]; exact foldsT_eq)).mono ?_); rintro e w3 ⟨v3, rfl, ho, hb⟩; obtain ⟨A3, c3, ev⟩ := Kd.N_slice ho; subst ev; have hl3 := (Kd.N_reads' ho).2.1; have H3 := Aside0.mk (Kd.N_reads' ho).2.2; have HB3 := Aside0.mk (below_step HB2.out hb); have H13 := Aside0.mk (Kd.C_below H12.out hb); have H23 := Aside0.mk (Kd.C_below H2.out hb); clear ho hb H12 H2 HB2)
    | (go_at_call 41; (with_reducible refine (api_Excluded.calls L4 _ (by rw [← E4.out]; exact excl_eq)).mono ?_); rintro e w4 ⟨v4, rfl, ho, hb⟩; obtain ⟨A4, c4, ev⟩ := Kd.R_slice ho; subst ev; have hl4 := (Kd.R_reads' ho).2.1; have H4 := Aside0.mk (Kd.R_reads' ho).2.2; have HB4 := Aside0.mk (below_step HB3.out hb); have H14 := Aside0.mk (Kd.C_below H13.out hb); have H24 := Aside0.mk (Kd.C_below H23.out hb); have H34 := Aside0.mk (Kd.C_below H3.out hb); clear ho hb H13 H23 H3 HB3)
    | (go_at_call 8; (with_reducible refine (api_Classes.calls L5 _ (by rw [← E5.out]; exact classes_eq)).mono ?_); rintro e w5 ⟨v5, rfl, ho, hb⟩; obtain ⟨A5, c5, ev⟩ := Kd.R_slice ho; subst ev; have hl5 := (Kd.R_reads' ho).2.1; have H5 := Aside0.mk (Kd.R_reads' ho).2.2; have HB5 := Aside0.mk (below_step HB4.out hb); have H15 := Aside0.mk (Kd.C_below H14.out hb); have H25 := Aside0.mk (Kd.C_below H24.out hb); have H35 := Aside0.mk (Kd.C_below H34.out hb); have H45 := Aside0.mk (Kd.C_below H4.out hb); clear ho hb H14 H24 H34 H4 HB4))
  go_ret
  refine ⟨w5.heap.size, rfl, ?_, below_alloc HB5.out _⟩
  have hb := below_alloc (Below.refl w5.heap.size w5) (.cells #[.slice A1 L1.length c1, .slice A2 L2.length c2, .slice A3 L3.length c3, .slice A4 L4.length c4, .slice A5 L5.length c5] 60)
  unfold TH
  rw [E1.out, E2.out, E3.out, E4.out, E5.out]
  exact ⟨A1, c1, A2, c2, A3, c3, A4, c4, A5, c5, heap_alloc_new _ _, ⟨Kd.C_below H15.out hb, hl1⟩, ⟨Kd.C_below H25.out hb, hl2⟩, ⟨Kd.C_below H35.out hb, hl3⟩, ⟨Kd.C_below H45.out hb, hl4⟩, ⟨Kd.C_below H5.out hb, hl5⟩⟩

/-! ### Look, Class -/
theorem Look_l0 (c : Int) (l : List S26) (hl : l.length ≤ 1000000) : ∀ (d k j : Nat), d < k → j + d = l.length → sobriquetref05_Look.l0 k l c (j : Int) = some (flat (l.drop j) c)
  | 0, k, j, hk, hj => by
    obtain ⟨k, rfl⟩ : ∃ m, k = m + 1 := ⟨k - 1, by omega⟩
    simp only [sobriquetref05_Look.l0]
    rw [if_neg (by omega), List.drop_eq_nil_of_le (by omega)]
    rfl
  | d + 1, k, j, hk, hj => by
    obtain ⟨k, rfl⟩ : ∃ m, k = m + 1 := ⟨k - 1, by omega⟩
    have hlt : j < l.length := by omega
    have e : rd_T26 l (j : Int) = l[j] := by simp [rd_T26, List.getD_eq_getElem?_getD, hlt]
    simp only [sobriquetref05_Look.l0]
    rw [if_pos (by omega), if_pos (by omega), e, wrap_succ j (by omega), Look_l0 c l hl d k (j + 1) (by omega) (by omega), List.drop_eq_getElem_cons hlt]
    generalize l[j] = x
    generalize l.drop (j + 1) = t
    show _ = some (if x.f0 ≤ c then (if c ≤ x.f1 then x.f2 else flat t c) else flat t c)
    split
    · split <;> rfl
    · rfl
theorem Look_f (l : List S26) (c : Int) (k : Nat) (hl : l.length ≤ 1000000) (hk : l.length < k) : sobriquetref05_Look.f k l c = some (flat l c) := Look_l0 c l hl l.length k 0 (by omega) (by omega)
set_option maxRecDepth 100000 in
set_option maxHeartbeats 2000000 in
theorem tclass_calls (c : Int) (g : Nat) (w : World) (h : TH w g) : Calls Try.prog 49 #[.pointer (some ⟨g, 0, none⟩), .int .i64 c] w fun e w' => e = .returned (.int .i64 (flat api_Classes.tbl c)) ∧ Below w.heap.size w w' := by
  obtain ⟨A1, c1, A2, c2, A3, c3, A4, c4, A5, c5, hg, h1, h2, h3, h4, h5⟩ := h
  have hq : sobriquetref05_Look.f 4000 api_Classes.tbl c = some (flat api_Classes.tbl c) := Look_f _ _ _ (by decide) (by decide)
  have HC := Aside0.mk ((blk_cell hg 4).trans rfl : w.cell? ⟨g, 4, none⟩ = some (.slice A5 api_Classes.tbl.length c5))
  have HR := Aside0.mk h5.1
  have hl := h5.2
  clear hg h1 h2 h3 h4 h5
  obtain ⟨L5, E5⟩ : ∃ l, Aside0 (api_Classes.tbl = l) := ⟨_, ⟨rfl⟩⟩
  rw [E5.out] at HC HR hl hq
  have hc := HC.out
  have HQ := Aside0.mk hq
  clear HC hq
  go_enter Try.func49, Try.ntmps49
  go_wp2_with (first | (go_at_call 51; (with_reducible refine (sobriquetref05_Look.calls 4000 A5 c5 L5 c _ _ HR.out hl HQ.out).mono ?_); rintro e w1 ⟨rfl, hd⟩; have HB := Aside0.mk (by obtain ⟨nd, rfl⟩ := hd; exact pw_below_drewN (Below.refl _ _) nd : Below w.heap.size w w1); clear hd))
  go_ret
  exact ⟨by rw [E5.out]; rfl, HB.out⟩

/-! ### look, Compat, Fold -/
theorem lookref_l0 (c : Int) (l : List S43) (hl : l.length ≤ 1000000) (ha : (l.all fun x => decide (x.f1.length ≤ 1000)) = true) : ∀ (d k j : Nat), d < k → j + d = l.length → sobriquetref05_look.l0 k l c (j : Int) = some (look43 (l.drop j) c)
  | 0, k, j, hk, hj => by
    obtain ⟨k, rfl⟩ : ∃ m, k = m + 1 := ⟨k - 1, by omega⟩
    simp only [sobriquetref05_look.l0]
    rw [if_neg (by omega), List.drop_eq_nil_of_le (by omega)]
    rfl
  | d + 1, k, j, hk, hj => by
    obtain ⟨k, rfl⟩ : ∃ m, k = m + 1 := ⟨k - 1, by omega⟩
    have hlt : j < l.length := by omega
    have e : rd_T43 l (j : Int) = l[j] := by simp [rd_T43, List.getD_eq_getElem?_getD, hlt]
    have h1 := of_decide_eq_true (List.all_eq_true.1 ha _ (List.getElem_mem hlt))
    simp only [sobriquetref05_look.l0]
    rw [if_pos (by omega), if_pos (by omega), e, wrap_succ j (by omega), lookref_l0 c l hl ha d k (j + 1) (by omega) (by omega), List.drop_eq_getElem_cons hlt]
    generalize l[j] = x at *
    generalize l.drop (j + 1) = t
    have ht : sobriquetkeep_TwinInts.f x.f1 = some x.f1 := by
      unfold sobriquetkeep_TwinInts.f
      rw [if_pos (by show 0 + x.f1.length < _; omega)]
      rfl
    rw [ht, Option.bind_some]
    by_cases e2 : x.f0 = c
    · rw [if_pos e2]
      simp [look43, e2]
    · rw [if_neg e2]
      simp [look43, e2]
theorem lookref_f (l : List S43) (c : Int) (k : Nat) (hl : l.length ≤ 1000000) (ha : (l.all fun x => decide (x.f1.length ≤ 1000)) = true) (hk : l.length < k) : sobriquetref05_look.f k l c = some (look43 l c) := lookref_l0 c l hl ha l.length k 0 (by omega) (by omega)
set_option maxRecDepth 100000 in
set_option maxHeartbeats 2000000 in
theorem tcompat_calls (c : Int) (g : Nat) (w : World) (h : TH w g) : Calls Try.prog 37 #[.pointer (some ⟨g, 0, none⟩), .int .i64 c] w fun e w' => ∃ v, e = .returned v ∧ Kd.R (Kd.int .i64) 3 w' w.heap.size (fun _ => True) v (look43 compatT c) ∧ Below w.heap.size w w' := by
  obtain ⟨A1, c1, A2, c2, A3, c3, A4, c4, A5, c5, hg, h1, h2, h3, h4, h5⟩ := h
  have hq : sobriquetref05_look.f 4000 compatT c = some (look43 compatT c) := lookref_f _ _ _ compatT_len compatT_all (by decide +kernel)
  have HC := Aside0.mk ((blk_cell hg 1).trans rfl : w.cell? ⟨g, 1, none⟩ = some (.slice A2 compatT.length c2))
  have HR := Aside0.mk h2.1
  have hl := h2.2
  clear hg h1 h2 h3 h4 h5
  obtain ⟨L5, E5⟩ : ∃ l, Aside0 (compatT = l) := ⟨_, ⟨rfl⟩⟩
  rw [E5.out] at HC HR hl hq
  have hc := HC.out
  have HQ := Aside0.mk hq
  clear HC hq
  go_enter Try.func37, Try.ntmps37
  go_wp2_with (first | (go_at_call 53; (with_reducible refine (sobriquetref05_look.calls 4000 A2 c2 L5 c _ _ HR.out hl HQ.out).mono ?_); rintro e w1 ⟨v1, rfl, ho, hb⟩; have HO := Aside0.mk ho; have HB := Aside0.mk hb; clear ho hb))
  go_ret
  exact ⟨_, rfl, by rw [E5.out]; exact HO.out, HB.out⟩
set_option maxRecDepth 100000 in
set_option maxHeartbeats 2000000 in
theorem tfold_calls (c : Int) (g : Nat) (w : World) (h : TH w g) : Calls Try.prog 38 #[.pointer (some ⟨g, 0, none⟩), .int .i64 c] w fun e w' => ∃ v, e = .returned v ∧ Kd.R (Kd.int .i64) 3 w' w.heap.size (fun _ => True) v (look43 foldsT c) ∧ Below w.heap.size w w' := by
  obtain ⟨A1, c1, A2, c2, A3, c3, A4, c4, A5, c5, hg, h1, h2, h3, h4, h5⟩ := h
  have hq : sobriquetref05_look.f 4000 foldsT c = some (look43 foldsT c) := lookref_f _ _ _ foldsT_len foldsT_all (by decide +kernel)
  have HC := Aside0.mk ((blk_cell hg 2).trans rfl : w.cell? ⟨g, 2, none⟩ = some (.slice A3 foldsT.length c3))
  have HR := Aside0.mk h3.1
  have hl := h3.2
  clear hg h1 h2 h3 h4 h5
  obtain ⟨L5, E5⟩ : ∃ l, Aside0 (foldsT = l) := ⟨_, ⟨rfl⟩⟩
  rw [E5.out] at HC HR hl hq
  have hc := HC.out
  have HQ := Aside0.mk hq
  clear HC hq
  go_enter Try.func38, Try.ntmps38
  go_wp2_with (first | (go_at_call 53; (with_reducible refine (sobriquetref05_look.calls 4000 A3 c3 L5 c _ _ HR.out hl HQ.out).mono ?_); rintro e w1 ⟨v1, rfl, ho, hb⟩; have HO := Aside0.mk ho; have HB := Aside0.mk hb; clear ho hb))
  go_ret
  exact ⟨_, rfl, by rw [E5.out]; exact HO.out, HB.out⟩

/-! ### Canon -/
theorem R_one (w : World) (q : Int) (b : Nat) (hb : b ≤ w.heap.size) : Kd.R (Kd.int .i64) 3 (w.alloc (.cells #[.int .i64 q] 3)) b (fun _ => True) (.slice (some ⟨w.heap.size, 0, none⟩) 1 1) [q] :=
  Kd.R_lower (R_flat (Kd.int .i64) 3 w (fun x => [Value.int .i64 x]) [q] (fun _ _ => rfl) (fun _ => rfl) (by decide : (1 : Nat) ≤ 9223372036854775807)) hb
theorem R_two (w : World) (q s : Int) (b : Nat) (hb : b ≤ w.heap.size) : Kd.R (Kd.int .i64) 3 (w.alloc (.cells #[.int .i64 q, .int .i64 s] 3)) b (fun _ => True) (.slice (some ⟨w.heap.size, 0, none⟩) 2 2) [q, s] :=
  Kd.R_lower (R_flat (Kd.int .i64) 3 w (fun x => [Value.int .i64 x]) [q, s] (fun _ _ => rfl) (fun _ => rfl) (by decide : (2 : Nat) ≤ 9223372036854775807)) hb
set_option maxRecDepth 100000 in
set_option maxHeartbeats 2000000 in
theorem tcanon_calls (c : Int) (g : Nat) (w : World) (h : TH w g) : Calls Try.prog 36 #[.pointer (some ⟨g, 0, none⟩), .int .i64 c] w fun e w' => ∃ v, e = .returned v ∧ Kd.R (Kd.int .i64) 3 w' w.heap.size (fun _ => True) v (look41 canonT c) ∧ Below w.heap.size w w' := by
  have HT := Aside0.mk h
  have hcl := canonT_len
  clear h
  have HB := Aside0.mk (Below.refl w.heap.size w)
  obtain ⟨ct, E⟩ : ∃ l, Aside0 (canonT = l) := ⟨_, ⟨rfl⟩⟩
  rw [E.out] at hcl ⊢
  obtain ⟨r, HE⟩ : ∃ r, Aside0 (look41 ct c = r) := ⟨_, ⟨rfl⟩⟩
  rw [HE.out]
  go_enter Try.func36, Try.ntmps36
  go_wp2
  go_loopw [5] (fun v wr => ∃ k : Nat, v = .int .i64 k ∧ k ≤ ct.length ∧ Aside0 (look41 (ct.drop k) c = r) ∧ Aside0 (Below w.heap.size w wr)) (fun v _ => ct.length - (intOf v).toNat)
  case atStart => exact ⟨0, rfl, Nat.zero_le _, HE, HB⟩
  case round =>
    clear HE HB
    obtain ⟨k, rfl, hk, HE, HB⟩ := hrel
    have HT1 := HT.out.below HB.out
    obtain ⟨A1, c1, A2, c2, A3, c3, A4, c4, A5, c5, hg, h1, h2, h3, h4, h5⟩ := HT1
    rw [E.out] at hg h1
    have hc0 : wr.cell? ⟨g, 0, none⟩ = some (.slice A1 ct.length c1) := (blk_cell hg 0).trans rfl
    have HR := Aside0.mk h1.1
    clear hg h1 h2 h3 h4 h5
    by_cases hlt : k < ct.length
    · obtain ⟨ad, e, hx0, hx1, hx2⟩ := at_T41 HR.out (k : Int) (by omega) (by omega)
      subst e
      have e2 : rd_T41 ct (k : Int) = ct[k] := by simp [rd_T41, List.getD_eq_getElem?_getD, hlt]
      rw [Int.toNat_natCast, e2] at hx0 hx1 hx2
      have HE2 : Aside0 (look41 (ct[k] :: ct.drop (k + 1)) c = r) := ⟨by rw [← List.drop_eq_getElem_cons hlt]; exact HE.out⟩
      clear HE
      generalize ct[k] = x at *
      clear e2
      obtain ⟨p, q, s⟩ := x
      dsimp only at hx0 hx1 hx2
      by_cases hp : p = c
      · have b1 : (p == c) = true := by simp [hp]
        by_cases hs : s = 0
        · have b2 : (s == 0) = true := by simp [hs]
          have HE3 : Aside0 (r = [q]) := ⟨by have := HE2.out; simp [look41, hp, took, hs] at this; exact this.symm⟩
          clear HE2 hp hs
          go_wp2
          go_ret
          rw [HE3.out]
          exact ⟨_, rfl, by have h := R_one (wr.alloc (.cells #[.int .i64 p, .int .i64 q, .int .i64 s] 41)) q w.heap.size (by rw [World.size_alloc]; have := HB.out.size; omega); rw [World.size_alloc] at h; exact h, below_alloc (below_alloc HB.out _) _⟩
        · have b2 : (s == 0) = false := by simp [hs]
          have HE3 : Aside0 (r = [q, s]) := ⟨by have := HE2.out; simp [look41, hp, took, hs] at this; exact this.symm⟩
          clear HE2 hp hs
          go_wp2
          go_ret
          rw [HE3.out]
          exact ⟨_, rfl, by have h := R_two (wr.alloc (.cells #[.int .i64 p, .int .i64 q, .int .i64 s] 41)) q s w.heap.size (by rw [World.size_alloc]; have := HB.out.size; omega); rw [World.size_alloc] at h; exact h, below_alloc (below_alloc HB.out _) _⟩
      · have b1 : (p == c) = false := by simp [hp]
        have HE3 : Aside0 (look41 (ct.drop (k + 1)) c = r) := ⟨by have := HE2.out; simp [look41, hp] at this; exact this⟩
        clear HE2 hp
        go_wp2
        go_roundw
        case rel => exact ⟨k + 1, by go_num, by omega, HE3, ⟨below_alloc HB.out _⟩⟩
        case measure => simp [intOf]; omega
    · have HE3 : Aside0 (r = []) := ⟨by have := HE.out; rw [List.drop_eq_nil_of_le (by omega)] at this; exact this.symm⟩
      clear HE
      go_wp2
      go_ret
      rw [HE3.out]
      exact ⟨_, rfl, Kd.R_nil _ _ _ _ _, HB.out⟩






/-! ### Pair -/
theorem tclass_of (c v : Int) (hv : flat api_Classes.tbl c = v) (g : Nat) (w : World) (h : TH w g) : Calls Try.prog 49 #[.pointer (some ⟨g, 0, none⟩), .int .i64 c] w fun e w' => e = .returned (.int .i64 v) ∧ Below w.heap.size w w' := by
  rw [← hv]
  exact tclass_calls c g w h
def okRef (a b : Int) (x : S41) : Bool := !decide (x.f2 = 0) && decide (x.f1 = a) && decide (x.f2 = b) && decide (flat api_Classes.tbl a = 0) && decide (flat api_Classes.tbl x.f0 = 0) && !decide (x.f0 ∈ exclL)
def refPair (a b : Int) : List S41 → Int × Bool
  | [] => (0, false)
  | x :: t => if okRef a b x = true then (x.f0, true) else refPair a b t
set_option maxRecDepth 100000 in
set_option maxHeartbeats 4000000 in
theorem tpair_calls (a b r1 : Int) (r2 : Bool) (h : refPair a b canonT = (r1, r2)) (g : Nat) (w : World) (hT : TH w g) : Calls Try.prog 29 #[.pointer (some ⟨g, 0, none⟩), .int .i64 a, .int .i64 b] w fun e w' => e = .returned (.tuple #[.int .i64 r1, .bool r2]) ∧ Below w.heap.size w w' := by
  have HT := Aside0.mk hT
  have hcl := canonT_len
  have HE := Aside0.mk h
  clear h hT
  have HB := Aside0.mk (Below.refl w.heap.size w)
  obtain ⟨ct, E⟩ : ∃ l, Aside0 (canonT = l) := ⟨_, ⟨rfl⟩⟩
  rw [E.out] at hcl HE
  obtain ⟨fa, EA⟩ : ∃ l, Aside0 (flat api_Classes.tbl a = l) := ⟨_, ⟨rfl⟩⟩
  go_enter Try.func29, Try.ntmps29
  go_wp2
  go_loopg [8] ct.length (fun kk v8 wr => ∃ k : Nat, kk = ct.length - k ∧ v8 = .int .i64 k ∧ k ≤ ct.length ∧ Aside0 (refPair a b (ct.drop k) = (r1, r2)) ∧ Aside0 (Below w.heap.size w wr))
  case atStart => exact ⟨0, rfl, rfl, Nat.zero_le _, HE, HB⟩
  case round =>
    clear HE HB
    obtain ⟨k, rfl, rfl, hk, HE, HB⟩ := hrel
    have HT0 := Aside0.mk (HT.out.below HB.out)
    obtain ⟨A1, c1, A2, c2, A3, c3, A4, c4, A5, c5, hg, h1, h2, h3, h4, h5⟩ := HT0.out
    rw [E.out] at hg h1
    have ht0 : wr.cell? ⟨g, 0, none⟩ = some (.slice A1 ct.length c1) := (blk_cell hg 0).trans rfl
    have HR := Aside0.mk h1.1
    clear hg h1 h2 h3 h4 h5
    by_cases hlt : k < ct.length
    · obtain ⟨ad, e, hx0, hx1, hx2⟩ := at_T41 HR.out (k : Int) (by omega) (by omega)
      subst e
      have e2 : rd_T41 ct (k : Int) = ct[k] := by simp [rd_T41, List.getD_eq_getElem?_getD, hlt]
      rw [Int.toNat_natCast, e2] at hx0 hx1 hx2
      have HE2 : Aside0 (refPair a b (ct[k] :: ct.drop (k + 1)) = (r1, r2)) := ⟨by rw [← List.drop_eq_getElem_cons hlt]; exact HE.out⟩
      clear HE
      generalize ct[k] = x at *
      clear e2
      obtain ⟨p, q, s⟩ := x
      dsimp only at hx0 hx1 hx2
      go_upto_region 5 with fail
      have hb5 := below_alloc (Below.refl wr.heap.size wr) (.cells #[.int .i64 p, .int .i64 q, .int .i64 s] 41)
      have HT5 := Aside0.mk (HT0.out.below hb5)
      have HB5 := Aside0.mk (below_step HB.out hb5)
      have HG5 : Aside0 ((wr.alloc (.cells #[.int .i64 p, .int .i64 q, .int .i64 s] 41)).heap[wr.heap.size]? = some (.cells #[.int .i64 p, .int .i64 q, .int .i64 s] 41 (0, 0))) := ⟨heap_alloc_new _ _⟩
      clear HT0 HB HR hx0 hx1 hx2 ht0 hb5
      generalize wr.alloc (.cells #[.int .i64 p, .int .i64 q, .int .i64 s] 41) = w5 at *
      generalize wr.heap.size = gb at *
      have hc0 : w5.cell? ⟨gb, 0, none⟩ = some (.int .i64 p) := (blk_cell HG5.out 0).trans rfl
      have hc1 : w5.cell? ⟨gb, 1, none⟩ = some (.int .i64 q) := (blk_cell HG5.out 1).trans rfl
      have hc2 : w5.cell? ⟨gb, 2, none⟩ = some (.int .i64 s) := (blk_cell HG5.out 2).trans rfl
      by_cases c1 : s = 0
      · have b1 : (s == 0) = true := by simp [c1]
        have HN : Aside0 (refPair a b (ct.drop (k + 1)) = (r1, r2)) := ⟨by have := HE2.out; rw [refPair, if_neg (by simp [okRef, c1])] at this; exact this⟩
        clear HE2
        clear c1
        go_wp2
        go_roundg (ct.length - (k + 1))
        case measure => omega
        case rel => exact ⟨k + 1, rfl, by go_num, by omega, HN, HB5⟩
      have b1 : (s == 0) = false := by simp [c1]
      by_cases c2 : q = a
      rotate_left
      · have b2 : (q != a) = true := by simp [c2]
        have HN : Aside0 (refPair a b (ct.drop (k + 1)) = (r1, r2)) := ⟨by have := HE2.out; rw [refPair, if_neg (by simp [okRef, c2])] at this; exact this⟩
        clear HE2
        clear c2
        go_wp2
        go_roundg (ct.length - (k + 1))
        case measure => omega
        case rel => exact ⟨k + 1, rfl, by go_num, by omega, HN, HB5⟩
      have b2 : (q != a) = false := by simp [c2]
      by_cases c3 : s = b
      rotate_left
      · have b3 : (s != b) = true := by simp [c3]
        have HN : Aside0 (refPair a b (ct.drop (k + 1)) = (r1, r2)) := ⟨by have := HE2.out; rw [refPair, if_neg (by simp [okRef, c3])] at this; exact this⟩
        clear HE2
        clear c2 c3
        go_wp2
        go_roundg (ct.length - (k + 1))
        case measure => omega
        case rel => exact ⟨k + 1, rfl, by go_num, by omega, HN, HB5⟩
      have b3 : (s != b) = false := by simp [c3]
      by_cases c4 : fa = 0
      rotate_left
      · have b4 : (fa != 0) = true := by simp [c4]
        have HN : Aside0 (refPair a b (ct.drop (k + 1)) = (r1, r2)) := ⟨by have := HE2.out; rw [refPair, if_neg (by simp [okRef, EA.out, c4])] at this; exact this⟩
        clear HE2
        clear c2 c3 c4
        go_wp2_with (first
          | (go_at_call 49; (with_reducible refine (tclass_of a fa EA.out g _ HT5.out).mono ?_); rintro e w6 ⟨rfl, hb⟩; have HT6 := Aside0.mk (HT5.out.below hb); have HB6 := Aside0.mk (below_step HB5.out hb); have HG6 := Aside0.mk ((hb.block gb (lt_of_block HG5.out)).trans HG5.out); clear hb HT5 HB5 HG5 hc0 hc1 hc2; have hc0 : w6.cell? ⟨gb, 0, none⟩ = some (.int .i64 p) := (blk_cell HG6.out 0).trans rfl))
        go_roundg (ct.length - (k + 1))
        case measure => omega
        case rel => exact ⟨k + 1, rfl, by go_num, by omega, HN, HB6⟩
      have b4 : (fa != 0) = false := by simp [c4]
      obtain ⟨fp, EP⟩ : ∃ l, Aside0 (flat api_Classes.tbl p = l) := ⟨_, ⟨rfl⟩⟩
      by_cases c5 : fp = 0
      rotate_left
      · have b5 : (fp != 0) = true := by simp [c5]
        have HN : Aside0 (refPair a b (ct.drop (k + 1)) = (r1, r2)) := ⟨by have := HE2.out; rw [refPair, if_neg (by simp [okRef, EP.out, c5])] at this; exact this⟩
        clear HE2
        clear c2 c3 c4 c5
        go_wp2_with (first
          | (go_at_call 49; (with_reducible refine (tclass_of a fa EA.out g _ HT5.out).mono ?_); rintro e w6 ⟨rfl, hb⟩; have HT6 := Aside0.mk (HT5.out.below hb); have HB6 := Aside0.mk (below_step HB5.out hb); have HG6 := Aside0.mk ((hb.block gb (lt_of_block HG5.out)).trans HG5.out); clear hb HT5 HB5 HG5 hc0 hc1 hc2; have hc0 : w6.cell? ⟨gb, 0, none⟩ = some (.int .i64 p) := (blk_cell HG6.out 0).trans rfl)
          | (go_at_call 49; (with_reducible refine (tclass_of p fp EP.out g _ HT6.out).mono ?_); rintro e w7 ⟨rfl, hb⟩; have HT7 := Aside0.mk (HT6.out.below hb); have HB7 := Aside0.mk (below_step HB6.out hb); have HG7 := Aside0.mk ((hb.block gb (lt_of_block HG6.out)).trans HG6.out); clear hb HT6 HB6 HG6 hc0 ; have hc0 : w7.cell? ⟨gb, 0, none⟩ = some (.int .i64 p) := (blk_cell HG7.out 0).trans rfl))
        go_roundg (ct.length - (k + 1))
        case measure => omega
        case rel => exact ⟨k + 1, rfl, by go_num, by omega, HN, HB7⟩
      have b5 : (fp != 0) = false := by simp [c5]
      have HQ : Aside0 (okRef a b ⟨p, q, s⟩ = !decide (p ∈ exclL)) := ⟨by simp [okRef, c1, c2, c3, EA.out, EP.out, c4, c5, show ¬ b = 0 from fun h => c1 (c3.trans h)]⟩
      clear c1 c2 c3 c4 c5
      go_wp2_with (first
        | (go_at_call 49; (with_reducible refine (tclass_of a fa EA.out g _ HT5.out).mono ?_); rintro e w6 ⟨rfl, hb⟩; have HT6 := Aside0.mk (HT5.out.below hb); have HB6 := Aside0.mk (below_step HB5.out hb); have HG6 := Aside0.mk ((hb.block gb (lt_of_block HG5.out)).trans HG5.out); clear hb HT5 HB5 HG5 hc0 hc1 hc2; have hc0 : w6.cell? ⟨gb, 0, none⟩ = some (.int .i64 p) := (blk_cell HG6.out 0).trans rfl)
        | (go_at_call 49; (with_reducible refine (tclass_of p fp EP.out g _ HT6.out).mono ?_); rintro e w7 ⟨rfl, hb⟩; have HT7 := Aside0.mk (HT6.out.below hb); have HB7 := Aside0.mk (below_step HB6.out hb); have HG7 := Aside0.mk ((hb.block gb (lt_of_block HG6.out)).trans HG6.out); clear hb HT6 HB6 HG6 hc0 ; have hc0 : w7.cell? ⟨gb, 0, none⟩ = some (.int .i64 p) := (blk_cell HG7.out 0).trans rfl))
      obtain ⟨ex, EX⟩ : ∃ l, Aside0 (exclL = l) := ⟨_, ⟨rfl⟩⟩
      rw [EX.out] at HQ
      have hel : ex.length ≤ 10 := by rw [← EX.out]; decide
      go_loopg [10, 11] ex.length (fun kk v10 v11 wi => ∃ i : Nat, kk = ex.length - i ∧ v10 = .bool (decide (p ∈ ex.take i)) ∧ v11 = .int .i64 i ∧ i ≤ ex.length ∧ Aside0 (Below w.heap.size w wi) ∧ Aside0 (TH wi g) ∧ Aside0 (wi.heap[gb]? = some (.cells #[.int .i64 p, .int .i64 q, .int .i64 s] 41 (0, 0))))
      case atStart => exact ⟨0, rfl, by simp, rfl, Nat.zero_le _, HB7, HT7, HG7⟩
      case round =>
        clear HB7 HT7 HG7 hc0
        obtain ⟨i, rfl, rfl, rfl, hi, HB8, HT8, HG8⟩ := hrel
        obtain ⟨A1, c1, A2, c2, A3, c3, A4, c4, A5, c5, hg, h1, h2, h3, h4, h5⟩ := HT8.out
        rw [EX.out] at hg h4
        have ht3 : wr.cell? ⟨g, 3, none⟩ = some (.slice A4 ex.length c4) := (blk_cell hg 3).trans rfl
        have HR4 := Aside0.mk h4.1
        have hc0 : wr.cell? ⟨gb, 0, none⟩ = some (.int .i64 p) := (blk_cell HG8.out 0).trans rfl
        clear hg h1 h2 h3 h4 h5
        by_cases hin : i < ex.length
        · obtain ⟨ad4, e4, hx4⟩ := Kd.at_int HR4.out (i : Int) (by omega) (by omega)
          subst e4
          have e5 : rd ex (i : Int) = ex[i] := rd_at _ _ hin
          rw [Int.toNat_natCast, e5] at hx4
          have HS : Aside0 (decide (p ∈ ex.take (i + 1)) = (decide (p ∈ ex.take i) || (ex[i] == p))) := ⟨by
            rw [List.take_succ_eq_append_getElem hin, Bool.eq_iff_iff]
            simp only [decide_eq_true_eq, Bool.or_eq_true, List.mem_append, List.mem_singleton, beq_iff_eq]
            exact ⟨fun h => h.elim .inl (fun h => .inr h.symm), fun h => h.elim .inl (fun h => .inr h.symm)⟩⟩
          have hin2 : (i : Int) < (ex.length : Int) := by omega
          obtain ⟨ve, EV⟩ : ∃ l, Aside0 (ex[i] = l) := ⟨_, ⟨rfl⟩⟩
          rw [EV.out] at hx4 HS
          clear EV e5
          obtain ⟨bo, EB⟩ : ∃ l, Aside0 (decide (p ∈ ex.take i) = l) := ⟨_, ⟨rfl⟩⟩
          rw [EB.out] at HS ⊢
          have p4 := eq_true (show (0 : Int) ≤ (i : Int) by omega)
          have q4 := eq_true hin2
          have d4 : decide ((i : Int) < (ex.length : Int)) = true := decide_eq_true hin2
          cases bo with
          | true =>
            go_wp2
            repeat (go_quiet (fail); try go_wp2)
            go_roundg (ex.length - (i + 1))
            case measure => omega
            case rel => exact ⟨i + 1, rfl, by rw [HS.out]; rfl, by go_num, by omega, ⟨pw_below_drewN HB8.out _⟩, ⟨HT8.out.below (pw_below_drewN (Below.refl _ _) _)⟩, HG8⟩
          | false =>
            go_wp2
            repeat (go_quiet (fail); try go_wp2)
            go_roundg (ex.length - (i + 1))
            case measure => omega
            case rel => exact ⟨i + 1, rfl, by rw [HS.out, Bool.false_or], by go_num, by omega, ⟨pw_below_drewN HB8.out _⟩, ⟨HT8.out.below (pw_below_drewN (Below.refl _ _) _)⟩, HG8⟩
        · obtain ⟨bo, EB⟩ : ∃ l, Aside0 (decide (p ∈ ex.take i) = l) := ⟨_, ⟨rfl⟩⟩
          have HQ2 : Aside0 (okRef a b ⟨p, q, s⟩ = !bo) := ⟨by rw [HQ.out, ← EB.out, List.take_of_length_le (by omega)]⟩
          rw [EB.out]
          clear EB HQ
          have hin2 : ¬ (i : Int) < (ex.length : Int) := by omega
          cases bo with
          | true =>
            have HN : Aside0 (refPair a b (ct.drop (k + 1)) = (r1, r2)) := ⟨by have := HE2.out; rw [refPair, if_neg (by rw [HQ2.out]; decide)] at this; exact this⟩
            clear HE2 HQ2
            go_wp2
            go_roundg (ct.length - (k + 1))
            case measure => omega
            case rel => exact ⟨k + 1, rfl, by go_num, by omega, HN, HB8⟩
          | false =>
            have HN : Aside0 (r1 = p ∧ r2 = true) := ⟨by have := HE2.out; rw [refPair, if_pos (by rw [HQ2.out]; decide)] at this; simp only [Prod.mk.injEq] at this; exact ⟨this.1.symm, this.2.symm⟩⟩
            clear HE2 HQ2
            go_wp2
            go_ret2
            obtain ⟨rfl, rfl⟩ := HN.out
            exact ⟨rfl, HB8.out⟩
    · have HN : Aside0 (r1 = 0 ∧ r2 = false) := ⟨by have := HE.out; rw [List.drop_eq_nil_of_le (by omega), refPair] at this; simp only [Prod.mk.injEq] at this; exact ⟨this.1.symm, this.2.symm⟩⟩
      clear HE
      go_wp2
      go_ret2
      obtain ⟨rfl, rfl⟩ := HN.out
      exact ⟨rfl, HB.out⟩
end Go.Proofs.Ytimpcabimncnfaa.M
