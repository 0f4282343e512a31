/- Proved here, by hand: what the methods of teletex.writer, Put and Has come to. -/
import Derived.Test.YtgcdfchchphpjaaM2
import Derived.Test.YtgcdfchchphpjaaM7
import Derived.Test.YtgcdfchchphpjaaM1
import Derived.Test.YtgcdfchchphpjaaLCsets
import Derived.OneCell
namespace Go.Proofs.Ytgcdfchchphpjaa.M
set_option linter.unusedVariables false
set_option linter.unusedSimpArgs false
open Go.RowKit Go.Proofs.YtgcdfchchphpjaaW.PrintWords Go.Proofs.YtgcdfchchphpjaaW.PrintLast Go.Proofs.YtgcdfchchphpjaaW.PrintMore

/-- A writer at block g: its left set, what it has written. -/
def WH (w0 W : World) (g : Nat) (left : Int) (xs : List Int) (A : Option Addr) (c : Nat) : Prop :=
  W.heap[g]? = some (.cells #[.int .i64 left, .slice A xs.length c] 54 (0, 0)) ∧ w0.heap.size ≤ g ∧ Kd.R (Kd.int .u8) 5 W w0.heap.size (fun _ => True) (.slice A xs.length c) xs ∧ Below w0.heap.size w0 W
theorem WH.below {w0 W W1 : World} {g : Nat} {left : Int} {xs : List Int} {A : Option Addr} {c : Nat} (h : WH w0 W g left xs A c) (hb : Below W.heap.size W W1) : WH w0 W1 g left xs A c :=
  ⟨(hb.block g (lt_of_block h.1)).trans h.1, h.2.1, Kd.R_below h.2.2.1 hb, h.2.2.2.trans (hb.mono h.2.2.2.size)⟩
theorem WH.drawn {w0 W W1 : World} {g : Nat} {left : Int} {xs : List Int} {A : Option Addr} {c : Nat} (h : WH w0 W g left xs A c) (hb : Drawn0 W W1) : WH w0 W1 g left xs A c := by
  obtain ⟨n, rfl⟩ := hb
  exact h.below (pw_below_drewN (Below.refl _ _) n)
theorem WH.set0 {w0 W : World} {g : Nat} {left : Int} {xs : List Int} {A : Option Addr} {c : Nat} (h : WH w0 W g left xs A c) (left' : Int) : WH w0 (W.setCell ⟨g, 0, none⟩ (.int .i64 left')) g left' xs A c :=
  ⟨by simpa using blk_set h.1 0 (.int .i64 left'), h.2.1, Kd.R_set h.2.2.1 h.1 (by decide) 0 _, h.2.2.2.setCell (p := ⟨g, 0, none⟩) h.2.1 _⟩
theorem WH.ne {w0 W : World} {g : Nat} {left : Int} {xs : List Int} {A : Option Addr} {c : Nat} (h : WH w0 W g left xs A c) : some g ≠ (Value.slice A xs.length c).ownBlock :=
  Kd.R_ne h.2.2.1 h.1 (by decide)
/-- Behind an append: the block of the writer still stands. -/
theorem WH.stands {w0 W w1 : World} {g : Nat} {left : Int} {xs : List Int} {A : Option Addr} {c : Nat} (h : WH w0 W g left xs A c) (hg : W.grownBy w1 (Value.slice A xs.length c).ownBlock) :
    w1.heap[g]? = some (.cells #[.int .i64 left, .slice A xs.length c] 54 (0, 0)) := (hg.block g (lt_of_block h.1) h.ne).trans h.1
/-- .. and behind the store of what the append gave. -/
theorem WH.stored {w0 W w1 : World} {g : Nat} {left : Int} {xs ys : List Int} {A A1 : Option Addr} {c c1 : Nat} (h : WH w0 W g left xs A c) (hg : W.grownBy w1 (Value.slice A xs.length c).ownBlock)
    (hR : Kd.R (Kd.int .u8) 5 w1 w0.heap.size (fun _ => True) (.slice A1 ys.length c1) ys) (hB : Below w0.heap.size w0 w1) : WH w0 (w1.setCell ⟨g, 1, none⟩ (.slice A1 ys.length c1)) g left ys A1 c1 :=
  ⟨by simpa using blk_set (h.stands hg) 1 (.slice A1 ys.length c1), h.2.1, Kd.R_set hR (h.stands hg) (by decide) 1 _, hB.setCell (p := ⟨g, 1, none⟩) h.2.1 _⟩
theorem WH.facts {w0 W : World} {g : Nat} {left : Int} {xs : List Int} {A : Option Addr} {c : Nat} (h : WH w0 W g left xs A c) : W.cell? ⟨g, 0, none⟩ = some (.int .i64 left) ∧ W.cell? ⟨g, 1, none⟩ = some (.slice A xs.length c) ∧ W.frozen? ⟨g, 0, none⟩ = false ∧ W.frozen? ⟨g, 1, none⟩ = false :=
  ⟨(blk_cell h.1 0).trans rfl, (blk_cell h.1 1).trans rfl, blk_frozen h.1 0, blk_frozen h.1 1⟩
theorem cell_W0 {w0 W : World} {g : Nat} {left : Int} {xs : List Int} {A : Option Addr} {c : Nat} (h : WH w0 W g left xs A c) : W.cell? ⟨g, 0, none⟩ = some (.int .i64 left) := (blk_cell h.1 0).trans rfl
theorem cell_W1 {w0 W : World} {g : Nat} {left : Int} {xs : List Int} {A : Option Addr} {c : Nat} (h : WH w0 W g left xs A c) : W.cell? ⟨g, 1, none⟩ = some (.slice A xs.length c) := (blk_cell h.1 1).trans rfl
set_option maxRecDepth 100000 in
set_option maxHeartbeats 2000000 in
theorem writer_designates (k : Nat) (set left : Int) (b : List Int) (e2 : Int) (hE : shift_Escape.f k 0 set = some (b, e2)) (hb10 : b.length ≤ 10) (xs : List Int) (hx : xs.length ≤ 1000000) (A : Option Addr) (c g : Nat) (w0 w : World) (hH : WH w0 w g left xs A c) :
    Calls Try.prog 40 #[.pointer (some ⟨g, 0, none⟩), .int .i64 set] w fun e w' => e = .returned (.tuple #[]) ∧ ∃ A' c', WH w0 w' g set (xs ++ b) A' c' := by
  have HE := Aside0.mk hE
  have HH := Aside0.mk hH
  have hc0 := cell_W0 hH
  have hc1 := cell_W1 hH
  have hf0 := blk_frozen hH.1 0
  have hf1 := blk_frozen hH.1 1
  clear hE hH
  go_enter Try.func40, Try.ntmps40
  go_wp2_with (first
    | (go_at_call 47; (with_reducible refine (shift_Escape.calls k 0 set b e2 _ HE.out).mono ?_); rintro e w1 ⟨v1, rfl, ho, hbw1⟩; have HO := Aside0.mk ho; clear ho; obtain ⟨Ar, cr, er⟩ := Kd.R_slice HO.out; subst er; have HH1 := Aside0.mk (HH.out.below hbw1); clear hbw1 HH hc0 hc1 hf0 hf1; obtain ⟨hc0, hc1, hf0, hf1⟩ := HH1.out.facts)
    | (at_builtin; refine Kd.R_append_rows (Kd.int .u8) (w0 := w0) w0.heap.size rfl (.tmp 16) (.tmp 17) 23 5 (.int .u8 0) 1 rfl Try.underlying23 info5 rfl (by decide) (by omega) _ xs b _ _ _ (fun _ => True) (fun _ => False) rfl rfl ?aO2 ?aR2 (fun _ _ h => h) (fun _ h => h.elim) ?aF2 ?aB2 ?aS2 ?aL2 ?_))
  case aO2 => exact HH1.out.2.2.1
  case aR2 => exact (Kd.R_reads' HO.out).2.2
  case aF2 => exact fun _ _ => trivial
  case aB2 => exact HH1.out.2.2.2
  case aS2 => exact HH1.out.2.2.2.size
  case aL2 => omega
  intro v2 w2 hR2 hBB2 hg2 hat2
  obtain ⟨A2, c2, ev2⟩ := Kd.R_slice hR2
  subst ev2
  have hblk2 := HH1.out.stands hg2
  have H2 := Aside0.mk (HH1.out.stored hg2 hR2 hBB2)
  clear hR2 hBB2 hg2 hat2 hc0 hc1 hf0 hf1
  have hlen2 : (xs ++ b).length ≤ xs.length + 10 := by simp <;> omega
  obtain ⟨zs2, HZ2⟩ : ∃ zs2, Aside0 (xs ++ b = zs2) := ⟨_, ⟨rfl⟩⟩
  rw [HZ2.out] at H2 hlen2
  try rw [HZ2.out]
  have hf0 := blk_frozen hblk2 0
  have hf1 := blk_frozen hblk2 1
  have hc0 : w2.cell? ⟨g, 0, none⟩ = some (.int .i64 left) := (blk_cell hblk2 0).trans rfl
  have hc1 : w2.cell? ⟨g, 1, none⟩ = some (.slice A xs.length c) := (blk_cell hblk2 1).trans rfl
  clear hblk2
  have H3 := Aside0.mk (H2.out.set0 set)
  go_wp2
  first | go_end0 | ((try simp only [Exit.inBlock, Exit.then]); refine bodyPost_ret (results_none rfl _ _ _) rfl ?_)
  exact ⟨rfl, A2, c2, by rw [HZ2.out]; exact H3.out⟩

/-- What place writes. -/
def placeB (left p : Int) (is : Bool) : List Int := if is = true then (if left = 87 then [IntKind.u8.wrap (p / 256), IntKind.u8.wrap p] else [IntKind.u8.wrap p]) else []
theorem placeB_len (left p : Int) (is : Bool) : (placeB left p is).length ≤ 2 := by
  unfold placeB
  repeat' split
  all_goals simp
set_option maxRecDepth 100000 in
set_option maxHeartbeats 2000000 in
theorem writer_place (k : Nat) (left ch p : Int) (is : Bool) (hF : csets_Find.f k left ch = some (p, is)) (xs : List Int) (hx : xs.length ≤ 1000000) (A : Option Addr) (c g : Nat) (w0 w : World) (hH : WH w0 w g left xs A c) :
    Calls Try.prog 37 #[.pointer (some ⟨g, 0, none⟩), .int .i64 ch] w fun e w' => e = .returned (.bool is) ∧ ∃ A' c', WH w0 w' g left (xs ++ placeB left p is) A' c' := by
  have HE := Aside0.mk hF
  have HH := Aside0.mk hH
  have hc0 := cell_W0 hH
  have hc1 := cell_W1 hH
  have hf0 := blk_frozen hH.1 0
  have hf1 := blk_frozen hH.1 1
  clear hF hH
  cases is with
  | false =>
    go_enter Try.func37, Try.ntmps37
    go_wp2_with (first
      | (go_at_call 38; (with_reducible refine (csets_Find.calls k left ch p false _ HE.out).mono ?_); rintro e w1 ⟨rfl, hbw1⟩; have HH1 := Aside0.mk (HH.out.below hbw1); clear hbw1 HH hc0 hc1 hf0 hf1; obtain ⟨hc0, hc1, hf0, hf1⟩ := HH1.out.facts))
    go_ret
    exact ⟨rfl, A, c, by show WH w0 _ g left (xs ++ []) A c; rw [List.append_nil]; exact HH1.out⟩
  | true =>
    by_cases h87 : left = 87
    · have HP : Aside0 (placeB left p true = [IntKind.u8.wrap (p / 256)] ++ [IntKind.u8.wrap p]) := ⟨by rw [placeB, if_pos rfl, if_pos h87]; rfl⟩
      subst h87
      go_enter Try.func37, Try.ntmps37
      go_wp2_with (first
        | (go_at_call 38; (with_reducible refine (csets_Find.calls k 87 ch p true _ HE.out).mono ?_); rintro e w1 ⟨rfl, hbw1⟩; have HH1 := Aside0.mk (HH.out.below hbw1); clear hbw1 HH hc0 hc1 hf0 hf1; obtain ⟨hc0, hc1, hf0, hf1⟩ := HH1.out.facts)
        | (go_at_call 18; (with_reducible refine (csets_Wide.calls 87 true _ (rfl)).mono ?_); rintro e w2 ⟨rfl, hd⟩; have hbw2 : Below w1.heap.size w1 w2 := (by obtain ⟨nd, rfl⟩ := hd; exact pw_below_drewN (Below.refl _ _) nd); have HH2 := Aside0.mk (HH1.out.below hbw2); clear hbw2 HH1 hc0 hc1 hf0 hf1 hd; obtain ⟨hc0, hc1, hf0, hf1⟩ := HH2.out.facts)
        | (at_builtin; refine Kd.R_append (Kd.int .u8) (w0 := w0) w0.heap.size rfl (.tmp 28) (.tmp 32) 23 5 (.int .u8 0) 1 rfl Try.underlying23 info5 rfl (by decide) (by omega) _ xs (IntKind.u8.wrap (p / 256)) [.int .u8 (IntKind.u8.wrap (p / 256))] (fun _ => True) (fun _ => False) rfl rfl ?aP3 (fun _ hk => hk.elim) ?aF3 ?aO3 ?aB3 ?aS3 ?aL3 ?_))
      case aP3 => exact rfl
      first | (case aF3 => exact fun _ _ => trivial) | skip
      case aO3 => exact HH2.out.2.2.1
      case aB3 => exact HH2.out.2.2.2
      case aS3 => exact HH2.out.2.2.2.size
      case aL3 => omega
      intro v3 w3 hR3 hBB3 hg3 hat3
      obtain ⟨A3, c3, ev3⟩ := Kd.R_slice hR3
      subst ev3
      have hblk3 := HH2.out.stands hg3
      have H3 := Aside0.mk (HH2.out.stored hg3 hR3 hBB3)
      clear hR3 hBB3 hg3 hat3 hc0 hc1 hf0 hf1
      have hlen3 : (xs ++ [IntKind.u8.wrap (p / 256)]).length ≤ xs.length + 10 := by simp <;> omega
      obtain ⟨zs3, HZ3⟩ : ∃ zs3, Aside0 (xs ++ [IntKind.u8.wrap (p / 256)] = zs3) := ⟨_, ⟨rfl⟩⟩
      rw [HZ3.out] at H3 hlen3
      try rw [HZ3.out]
      have hf0 := blk_frozen hblk3 0
      have hf1 := blk_frozen hblk3 1
      have hc0 : w3.cell? ⟨g, 0, none⟩ = some (.int .i64 87) := (blk_cell hblk3 0).trans rfl
      have hc1 : w3.cell? ⟨g, 1, none⟩ = some (.slice A xs.length c) := (blk_cell hblk3 1).trans rfl
      clear hblk3
      go_upto_region 4 with fail
      generalize w3.setCell ⟨g, 1, none⟩ (.slice A3 zs3.length c3) = wa3 at *
      clear hc0 hc1 hf0 hf1
      obtain ⟨hc0, hc1, hf0, hf1⟩ := H3.out.facts
      go_wp2_with (first
        | (at_builtin; refine Kd.R_append (Kd.int .u8) (w0 := w0) w0.heap.size rfl (.tmp 41) (.tmp 44) 23 5 (.int .u8 0) 1 rfl Try.underlying23 info5 rfl (by decide) (by omega) _ zs3 (IntKind.u8.wrap p) [.int .u8 (IntKind.u8.wrap p)] (fun _ => True) (fun _ => False) rfl rfl ?aP4 (fun _ hk => hk.elim) ?aF4 ?aO4 ?aB4 ?aS4 ?aL4 ?_))
      clear HH2
      case aP4 => exact rfl
      first | (case aF4 => exact fun _ _ => trivial) | skip
      case aO4 => exact H3.out.2.2.1
      case aB4 => exact H3.out.2.2.2
      case aS4 => exact H3.out.2.2.2.size
      case aL4 => omega
      intro v4 w4 hR4 hBB4 hg4 hat4
      obtain ⟨A4, c4, ev4⟩ := Kd.R_slice hR4
      subst ev4
      have hblk4 := H3.out.stands hg4
      have H4 := Aside0.mk (H3.out.stored hg4 hR4 hBB4)
      clear hR4 hBB4 hg4 hat4 hc0 hc1 hf0 hf1
      have hlen4 : (zs3 ++ [IntKind.u8.wrap p]).length ≤ zs3.length + 10 := by simp <;> omega
      obtain ⟨zs4, HZ4⟩ : ∃ zs4, Aside0 (zs3 ++ [IntKind.u8.wrap p] = zs4) := ⟨_, ⟨rfl⟩⟩
      rw [HZ4.out] at H4 hlen4
      try rw [HZ4.out]
      have hf0 := blk_frozen hblk4 0
      have hf1 := blk_frozen hblk4 1
      have hc0 : w4.cell? ⟨g, 0, none⟩ = some (.int .i64 87) := (blk_cell hblk4 0).trans rfl
      have hc1 : w4.cell? ⟨g, 1, none⟩ = some (.slice A3 zs3.length c3) := (blk_cell hblk4 1).trans rfl
      clear hblk4
      go_wp2
      go_ret
      exact ⟨rfl, A4, c4, by rw [HP.out, ← List.append_assoc, HZ3.out, HZ4.out]; exact H4.out⟩
    · have HP : Aside0 (placeB left p true = [IntKind.u8.wrap p]) := ⟨by rw [placeB, if_pos rfl, if_neg h87]⟩
      have h87b : (left == 87) = false := by simp [h87]
      clear h87
      go_enter Try.func37, Try.ntmps37
      go_wp2_with (first
        | (go_at_call 38; (with_reducible refine (csets_Find.calls k left ch p true _ HE.out).mono ?_); rintro e w1 ⟨rfl, hbw1⟩; have HH1 := Aside0.mk (HH.out.below hbw1); clear hbw1 HH hc0 hc1 hf0 hf1; obtain ⟨hc0, hc1, hf0, hf1⟩ := HH1.out.facts)
        | (go_at_call 18; (with_reducible refine (csets_Wide.calls left false _ (by rw [csets_Wide.f, h87b])).mono ?_); rintro e w2 ⟨rfl, hd⟩; have hbw2 : Below w1.heap.size w1 w2 := (by obtain ⟨nd, rfl⟩ := hd; exact pw_below_drewN (Below.refl _ _) nd); have HH2 := Aside0.mk (HH1.out.below hbw2); clear hbw2 HH1 hc0 hc1 hf0 hf1 hd; obtain ⟨hc0, hc1, hf0, hf1⟩ := HH2.out.facts)
        | (at_builtin; refine Kd.R_append (Kd.int .u8) (w0 := w0) w0.heap.size rfl (.tmp 41) (.tmp 44) 23 5 (.int .u8 0) 1 rfl Try.underlying23 info5 rfl (by decide) (by omega) _ xs (IntKind.u8.wrap p) [.int .u8 (IntKind.u8.wrap p)] (fun _ => True) (fun _ => False) rfl rfl ?aP5 (fun _ hk => hk.elim) ?aF5 ?aO5 ?aB5 ?aS5 ?aL5 ?_))
      case aP5 => exact rfl
      first | (case aF5 => exact fun _ _ => trivial) | skip
      case aO5 => exact HH2.out.2.2.1
      case aB5 => exact HH2.out.2.2.2
      case aS5 => exact HH2.out.2.2.2.size
      case aL5 => omega
      intro v5 w5 hR5 hBB5 hg5 hat5
      obtain ⟨A5, c5, ev5⟩ := Kd.R_slice hR5
      subst ev5
      have hblk5 := HH2.out.stands hg5
      have H5 := Aside0.mk (HH2.out.stored hg5 hR5 hBB5)
      clear hR5 hBB5 hg5 hat5 hc0 hc1 hf0 hf1
      have hlen5 : (xs ++ [IntKind.u8.wrap p]).length ≤ xs.length + 10 := by simp <;> omega
      obtain ⟨zs5, HZ5⟩ : ∃ zs5, Aside0 (xs ++ [IntKind.u8.wrap p] = zs5) := ⟨_, ⟨rfl⟩⟩
      rw [HZ5.out] at H5 hlen5
      try rw [HZ5.out]
      have hf0 := blk_frozen hblk5 0
      have hf1 := blk_frozen hblk5 1
      have hc0 : w5.cell? ⟨g, 0, none⟩ = some (.int .i64 left) := (blk_cell hblk5 0).trans rfl
      have hc1 : w5.cell? ⟨g, 1, none⟩ = some (.slice A xs.length c) := (blk_cell hblk5 1).trans rfl
      clear hblk5
      go_wp2
      go_ret
      exact ⟨rfl, A5, c5, by rw [HP.out, HZ5.out]; exact H5.out⟩

def escOf (set : Int) : List Int := if set = 87 then [27, 36, 40, finalOf set % 256] else [27, 40, finalOf set % 256]
theorem escOf_len (set : Int) : (escOf set).length ≤ 4 := by
  unfold escOf
  split <;> simp
theorem Escape_f (set : Int) (h : finalOf set ≠ 0) (k : Nat) (hk : 1 ≤ k) : shift_Escape.f k 0 set = some (escOf set, 0) := by
  obtain ⟨k, rfl⟩ : ∃ m, k = m + 1 := ⟨k - 1, by omega⟩
  unfold shift_Escape.f
  rw [Final_f, Option.bind_some, if_neg (by decide)]
  simp only [shift_Escape.j0]
  rw [if_neg (by decide), if_neg h]
  unfold csets_Wide.f escOf
  rw [Option.bind_some, show wrap64 (40 + 0) = 40 from (wrap_id _ (by omega) (by omega)).trans (by omega)]
  by_cases c : set = 87
  · rw [if_pos (by simp [c]), if_pos c]; rfl
  · rw [if_neg (by simp [c]), if_neg c]; rfl
def plB (left ch : Int) : List Int := placeB left (findL left ch codesAll).1 (findL left ch codesAll).2
theorem plB_len (left ch : Int) : (plB left ch).length ≤ 2 := placeB_len _ _ _
/-- The letters stand at their own places in the sets 102 and 6. -/
theorem letters_own : (List.range 123).all (fun n => if (65 ≤ n ∧ n ≤ 90) ∨ (97 ≤ n ∧ n ≤ 122) then decide (findL 102 (n : Int) codesAll = ((n : Int), true)) && decide (findL 6 (n : Int) codesAll = ((n : Int), true)) else true) = true := by decide +kernel
theorem letter_own (l : Int) (h : 65 ≤ l ∧ l ≤ 90 ∨ 97 ≤ l ∧ l ≤ 122) : findL 102 l codesAll = (l, true) ∧ findL 6 l codesAll = (l, true) := by
  obtain ⟨n, rfl⟩ : ∃ n : Nat, l = (n : Int) := ⟨l.toNat, by omega⟩
  have h1 := List.all_eq_true.1 letters_own n (List.mem_range.2 (by omega))
  rw [if_pos (by omega)] at h1
  simpa using h1
def markB (p : Int) : Int := IntKind.u8.wrap (Go.bits .or .i64 p 128)
/-- What accent writes; the left set behind it. -/
def accB2 (left p l : Int) : List Int := (if l = 32 ∨ left = 102 ∨ left = 6 then [] else escOf 102) ++ [markB p, l]
def accLeft (left l : Int) : Int := if l = 32 ∨ left = 102 ∨ left = 6 then left else 102
theorem accB2_len (left p l : Int) : (accB2 left p l).length ≤ 6 := by
  unfold accB2
  have := escOf_len 102
  split <;> simp <;> omega
def setFind (ch : Int) : List Int → Option Int
  | [] => none
  | s :: t => if (findL s ch codesAll).2 = true then some s else setFind ch t
def setsAll : List Int := [102, 6, 126, 144, 138, 87]
theorem finals_all (s : Int) (h : s ∈ setsAll) : finalOf s ≠ 0 := by
  have : setsAll.all (fun s => decide (finalOf s ≠ 0)) = true := by decide
  exact of_decide_eq_true (List.all_eq_true.1 this s h)
def ctlAll : List Int := [8, 10, 12, 13, 32]
/-- What scalar does: the left set behind it, what it writes, whether it is told. -/
def scalarS (left ch : Int) : Int × List Int × Bool :=
  if ch ∈ ctlAll then (left, [IntKind.u8.wrap ch], true)
  else if (findL left ch codesAll).2 = true then (left, plB left ch, true)
  else if (findL 103 ch codesAll).2 = true then (left, [markB (findL 103 ch codesAll).1], true)
  else if (accentOf ch).2.2 = true then (accLeft left (accentOf ch).2.1, accB2 left (accentOf ch).1 (accentOf ch).2.1, true)
  else match setFind ch setsAll with
    | some s => (s, escOf s ++ plB s ch, true)
    | none => (left, [], false)
set_option maxRecDepth 100000 in
set_option maxHeartbeats 2000000 in
theorem writer_accent_no (left ch p l : Int) (hF : accentOf ch = (p, l, false)) (xs : List Int) (hx : xs.length ≤ 900000) (A : Option Addr) (c g : Nat) (w0 w : World) (hH : WH w0 w g left xs A c) :
    Calls Try.prog 39 #[.pointer (some ⟨g, 0, none⟩), .int .i64 ch] w fun e w' => e = .returned (.bool false) ∧ ∃ A' c', WH w0 w' g left xs A' c' := by
  have HE : Aside0 (csets_Accent.f 4000 ch = some (p, l, false)) := ⟨by rw [Accent_f _ _ (by omega), hF]⟩
  have HH := Aside0.mk hH
  have hc0 := cell_W0 hH
  have hc1 := cell_W1 hH
  have hf0 := blk_frozen hH.1 0
  have hf1 := blk_frozen hH.1 1
  clear hF hH
  go_enter Try.func39, Try.ntmps39
  go_wp2_with (first
    | (go_at_call 46; (with_reducible refine (csets_Accent.calls 4000 ch p l false _ HE.out).mono ?_); rintro e w1 ⟨rfl, hbw1⟩; have HH1 := Aside0.mk (HH.out.below hbw1); clear hbw1 HH hc0 hc1 hf0 hf1; obtain ⟨hc0, hc1, hf0, hf1⟩ := HH1.out.facts))
  go_ret
  exact ⟨rfl, A, c, HH1.out⟩
set_option maxRecDepth 100000 in
set_option maxHeartbeats 2000000 in
theorem writer_accent_space (left ch p : Int) (hF : accentOf ch = (p, 32, true)) (xs : List Int) (hx : xs.length ≤ 900000) (A : Option Addr) (c g : Nat) (w0 w : World) (hH : WH w0 w g left xs A c) :
    Calls Try.prog 39 #[.pointer (some ⟨g, 0, none⟩), .int .i64 ch] w fun e w' => e = .returned (.bool true) ∧ ∃ A' c', WH w0 w' g (accLeft left 32) (xs ++ accB2 left p 32) A' c' := by
  have HE : Aside0 (csets_Accent.f 4000 ch = some (p, 32, true)) := ⟨by rw [Accent_f _ _ (by omega), hF]⟩
  have HH := Aside0.mk hH
  have hc0 := cell_W0 hH
  have hc1 := cell_W1 hH
  have hf0 := blk_frozen hH.1 0
  have hf1 := blk_frozen hH.1 1
  clear hF hH
  have HP : Aside0 (accB2 left p 32 = [IntKind.u8.wrap (Go.bits .or .i64 p 128)] ++ [32]) := ⟨by rw [accB2, if_pos (.inl rfl)]; rfl⟩
  go_enter Try.func39, Try.ntmps39
  go_wp2_with (first
    | (go_at_call 46; (with_reducible refine (csets_Accent.calls 4000 ch p 32 true _ HE.out).mono ?_); rintro e w1 ⟨rfl, hbw1⟩; have HH1 := Aside0.mk (HH.out.below hbw1); clear hbw1 HH hc0 hc1 hf0 hf1; obtain ⟨hc0, hc1, hf0, hf1⟩ := HH1.out.facts)
    | (at_builtin; refine Kd.R_append (Kd.int .u8) (w0 := w0) w0.heap.size rfl (.tmp 38) (.tmp 42) 23 5 (.int .u8 0) 1 rfl Try.underlying23 info5 rfl (by decide) (by omega) _ xs (IntKind.u8.wrap (Go.bits .or .i64 p 128)) [.int .u8 (IntKind.u8.wrap (Go.bits .or .i64 p 128))] (fun _ => True) (fun _ => False) rfl rfl ?aP3 (fun _ hk => hk.elim) ?aF3 ?aO3 ?aB3 ?aS3 ?aL3 ?_))
  case aP3 => exact rfl
  first | (case aF3 => exact fun _ _ => trivial) | skip
  case aO3 => exact HH1.out.2.2.1
  case aB3 => exact HH1.out.2.2.2
  case aS3 => exact HH1.out.2.2.2.size
  case aL3 => omega
  intro v3 w3 hR3 hBB3 hg3 hat3
  obtain ⟨A3, c3, ev3⟩ := Kd.R_slice hR3
  subst ev3
  have hblk3 := HH1.out.stands hg3
  have H3 := Aside0.mk (HH1.out.stored hg3 hR3 hBB3)
  clear hR3 hBB3 hg3 hat3 hc0 hc1 hf0 hf1
  have hlen3 : (xs ++ [IntKind.u8.wrap (Go.bits .or .i64 p 128)]).length ≤ xs.length + 10 := by simp <;> omega
  obtain ⟨zs3, HZ3⟩ : ∃ zs3, Aside0 (xs ++ [IntKind.u8.wrap (Go.bits .or .i64 p 128)] = zs3) := ⟨_, ⟨rfl⟩⟩
  rw [HZ3.out] at H3 hlen3
  try rw [HZ3.out]
  have hf0 := blk_frozen hblk3 0
  have hf1 := blk_frozen hblk3 1
  have hc0 : w3.cell? ⟨g, 0, none⟩ = some (.int .i64 left) := (blk_cell hblk3 0).trans rfl
  have hc1 : w3.cell? ⟨g, 1, none⟩ = some (.slice A xs.length c) := (blk_cell hblk3 1).trans rfl
  clear hblk3
  go_upto_region 7 with fail
  generalize w3.setCell ⟨g, 1, none⟩ (.slice A3 zs3.length c3) = wa3 at *
  clear hc0 hc1 hf0 hf1
  obtain ⟨hc0, hc1, hf0, hf1⟩ := H3.out.facts
  go_wp2_with (first
    | (at_builtin; refine Kd.R_append (Kd.int .u8) (w0 := w0) w0.heap.size rfl (.tmp 52) (.tmp 53) 23 5 (.int .u8 0) 1 rfl Try.underlying23 info5 rfl (by decide) (by omega) _ zs3 (32) [.int .u8 (32)] (fun _ => True) (fun _ => False) rfl rfl ?aP4 (fun _ hk => hk.elim) ?aF4 ?aO4 ?aB4 ?aS4 ?aL4 ?_))
  case aP4 => exact rfl
  first | (case aF4 => exact fun _ _ => trivial) | skip
  case aO4 => exact H3.out.2.2.1
  case aB4 => exact H3.out.2.2.2
  case aS4 => exact H3.out.2.2.2.size
  case aL4 => omega
  intro v4 w4 hR4 hBB4 hg4 hat4
  obtain ⟨A4, c4, ev4⟩ := Kd.R_slice hR4
  subst ev4
  have hblk4 := H3.out.stands hg4
  have H4 := Aside0.mk (H3.out.stored hg4 hR4 hBB4)
  clear hR4 hBB4 hg4 hat4 hc0 hc1 hf0 hf1
  have hlen4 : (zs3 ++ [32]).length ≤ zs3.length + 10 := by simp <;> omega
  obtain ⟨zs4, HZ4⟩ : ∃ zs4, Aside0 (zs3 ++ [32] = zs4) := ⟨_, ⟨rfl⟩⟩
  rw [HZ4.out] at H4 hlen4
  try rw [HZ4.out]
  have hf0 := blk_frozen hblk4 0
  have hf1 := blk_frozen hblk4 1
  have hc0 : w4.cell? ⟨g, 0, none⟩ = some (.int .i64 left) := (blk_cell hblk4 0).trans rfl
  have hc1 : w4.cell? ⟨g, 1, none⟩ = some (.slice A3 zs3.length c3) := (blk_cell hblk4 1).trans rfl
  clear hblk4
  go_wp2
  go_ret
  exact ⟨rfl, A4, c4, by rw [HP.out, ← List.append_assoc, HZ3.out, HZ4.out]; exact H4.out⟩
set_option maxRecDepth 100000 in
set_option maxHeartbeats 2000000 in
theorem writer_accent_in (left ch p l : Int) (hl : l ≠ 32) (hF : accentOf ch = (p, l, true)) (hd : left = 102 ∨ left = 6) (hL : findL left l codesAll = (l, true)) (hl2 : 0 ≤ l ∧ l ≤ 255) (xs : List Int) (hx : xs.length ≤ 900000) (A : Option Addr) (c g : Nat) (w0 w : World) (hH : WH w0 w g left xs A c) :
    Calls Try.prog 39 #[.pointer (some ⟨g, 0, none⟩), .int .i64 ch] w fun e w' => e = .returned (.bool true) ∧ ∃ A' c', WH w0 w' g (accLeft left l) (xs ++ accB2 left p l) A' c' := by
  have HE : Aside0 (csets_Accent.f 4000 ch = some (p, l, true)) := ⟨by rw [Accent_f _ _ (by omega), hF]⟩
  have HH := Aside0.mk hH
  have hc0 := cell_W0 hH
  have hc1 := cell_W1 hH
  have hf0 := blk_frozen hH.1 0
  have hf1 := blk_frozen hH.1 1
  clear hF hH
  have HP : Aside0 (accB2 left p l = [IntKind.u8.wrap (Go.bits .or .i64 p 128)] ++ [l]) := ⟨by rw [accB2, if_pos (.inr hd)]; rfl⟩
  have HQ : Aside0 (accLeft left l = left) := ⟨by rw [accLeft, if_pos (.inr hd)]⟩
  have HL : Aside0 (csets_Find.f 4000 left l = some (l, true)) := ⟨by rw [Find_f _ _ _ (by omega), hL]⟩
  have HB : Aside0 (placeB left l true = [l]) := ⟨by rw [placeB, if_pos rfl, if_neg (by omega), show IntKind.u8.wrap l = l from by simp [IntKind.wrap, IntKind.bits, IntKind.signed]; omega]⟩
  have hl3 : (l != 32) = true := by simp [hl]
  have hl4 : (l == 32) = false := by simp [hl]
  clear hl hL
  rcases hd with rfl | rfl
  · go_enter Try.func39, Try.ntmps39
    go_wp2_with (first
      | (go_at_call 46; (with_reducible refine (csets_Accent.calls 4000 ch p l true _ HE.out).mono ?_); rintro e w1 ⟨rfl, hbw1⟩; have HH1 := Aside0.mk (HH.out.below hbw1); clear hbw1 HH hc0 hc1 hf0 hf1; obtain ⟨hc0, hc1, hf0, hf1⟩ := HH1.out.facts)
      | (at_builtin; refine Kd.R_append (Kd.int .u8) (w0 := w0) w0.heap.size rfl (.tmp 38) (.tmp 42) 23 5 (.int .u8 0) 1 rfl Try.underlying23 info5 rfl (by decide) (by omega) _ xs (IntKind.u8.wrap (Go.bits .or .i64 p 128)) [.int .u8 (IntKind.u8.wrap (Go.bits .or .i64 p 128))] (fun _ => True) (fun _ => False) rfl rfl ?aP3 (fun _ hk => hk.elim) ?aF3 ?aO3 ?aB3 ?aS3 ?aL3 ?_))
    case aP3 => exact rfl
    first | (case aF3 => exact fun _ _ => trivial) | skip
    case aO3 => exact HH1.out.2.2.1
    case aB3 => exact HH1.out.2.2.2
    case aS3 => exact HH1.out.2.2.2.size
    case aL3 => omega
    intro v3 w3 hR3 hBB3 hg3 hat3
    obtain ⟨A3, c3, ev3⟩ := Kd.R_slice hR3
    subst ev3
    have hblk3 := HH1.out.stands hg3
    have H3 := Aside0.mk (HH1.out.stored hg3 hR3 hBB3)
    clear hR3 hBB3 hg3 hat3 hc0 hc1 hf0 hf1
    have hlen3 : (xs ++ [IntKind.u8.wrap (Go.bits .or .i64 p 128)]).length ≤ xs.length + 10 := by simp <;> omega
    obtain ⟨zs3, HZ3⟩ : ∃ zs3, Aside0 (xs ++ [IntKind.u8.wrap (Go.bits .or .i64 p 128)] = zs3) := ⟨_, ⟨rfl⟩⟩
    rw [HZ3.out] at H3 hlen3
    try rw [HZ3.out]
    have hf0 := blk_frozen hblk3 0
    have hf1 := blk_frozen hblk3 1
    have hc0 : w3.cell? ⟨g, 0, none⟩ = some (.int .i64 102) := (blk_cell hblk3 0).trans rfl
    have hc1 : w3.cell? ⟨g, 1, none⟩ = some (.slice A xs.length c) := (blk_cell hblk3 1).trans rfl
    clear hblk3
    go_upto_region 7 with fail
    generalize w3.setCell ⟨g, 1, none⟩ (.slice A3 zs3.length c3) = wa3 at *
    clear hc0 hc1 hf0 hf1
    obtain ⟨hc0, hc1, hf0, hf1⟩ := H3.out.facts
    go_wp2_with (first
      | (go_at_call 37; (with_reducible refine (writer_place 4000 102 l l true HL.out zs3 (by omega) A3 c3 g w0 _ H3.out).mono ?_); rintro e w5 ⟨rfl, A5, c5, hn5⟩; have H5 := Aside0.mk hn5; clear hn5 H3 hc0 hc1 hf0 hf1; obtain ⟨hc0, hc1, hf0, hf1⟩ := H5.out.facts))
    go_ret
    exact ⟨rfl, A5, c5, by rw [HQ.out, HP.out, ← List.append_assoc, HZ3.out, ← HB.out]; exact H5.out⟩
  · go_enter Try.func39, Try.ntmps39
    go_wp2_with (first
      | (go_at_call 46; (with_reducible refine (csets_Accent.calls 4000 ch p l true _ HE.out).mono ?_); rintro e w1 ⟨rfl, hbw1⟩; have HH1 := Aside0.mk (HH.out.below hbw1); clear hbw1 HH hc0 hc1 hf0 hf1; obtain ⟨hc0, hc1, hf0, hf1⟩ := HH1.out.facts)
      | (at_builtin; refine Kd.R_append (Kd.int .u8) (w0 := w0) w0.heap.size rfl (.tmp 38) (.tmp 42) 23 5 (.int .u8 0) 1 rfl Try.underlying23 info5 rfl (by decide) (by omega) _ xs (IntKind.u8.wrap (Go.bits .or .i64 p 128)) [.int .u8 (IntKind.u8.wrap (Go.bits .or .i64 p 128))] (fun _ => True) (fun _ => False) rfl rfl ?aP4 (fun _ hk => hk.elim) ?aF4 ?aO4 ?aB4 ?aS4 ?aL4 ?_))
    case aP4 => exact rfl
    first | (case aF4 => exact fun _ _ => trivial) | skip
    case aO4 => exact HH1.out.2.2.1
    case aB4 => exact HH1.out.2.2.2
    case aS4 => exact HH1.out.2.2.2.size
    case aL4 => omega
    intro v4 w4 hR4 hBB4 hg4 hat4
    obtain ⟨A4, c4, ev4⟩ := Kd.R_slice hR4
    subst ev4
    have hblk4 := HH1.out.stands hg4
    have H4 := Aside0.mk (HH1.out.stored hg4 hR4 hBB4)
    clear hR4 hBB4 hg4 hat4 hc0 hc1 hf0 hf1
    have hlen4 : (xs ++ [IntKind.u8.wrap (Go.bits .or .i64 p 128)]).length ≤ xs.length + 10 := by simp <;> omega
    obtain ⟨zs4, HZ4⟩ : ∃ zs4, Aside0 (xs ++ [IntKind.u8.wrap (Go.bits .or .i64 p 128)] = zs4) := ⟨_, ⟨rfl⟩⟩
    rw [HZ4.out] at H4 hlen4
    try rw [HZ4.out]
    have hf0 := blk_frozen hblk4 0
    have hf1 := blk_frozen hblk4 1
    have hc0 : w4.cell? ⟨g, 0, none⟩ = some (.int .i64 6) := (blk_cell hblk4 0).trans rfl
    have hc1 : w4.cell? ⟨g, 1, none⟩ = some (.slice A xs.length c) := (blk_cell hblk4 1).trans rfl
    clear hblk4
    go_upto_region 7 with fail
    generalize w4.setCell ⟨g, 1, none⟩ (.slice A4 zs4.length c4) = wa4 at *
    clear hc0 hc1 hf0 hf1
    obtain ⟨hc0, hc1, hf0, hf1⟩ := H4.out.facts
    go_wp2_with (first
      | (go_at_call 37; (with_reducible refine (writer_place 4000 6 l l true HL.out zs4 (by omega) A4 c4 g w0 _ H4.out).mono ?_); rintro e w5 ⟨rfl, A5, c5, hn5⟩; have H5 := Aside0.mk hn5; clear hn5 H4 hc0 hc1 hf0 hf1; obtain ⟨hc0, hc1, hf0, hf1⟩ := H5.out.facts))
    go_ret
    exact ⟨rfl, A5, c5, by rw [HQ.out, HP.out, ← List.append_assoc, HZ4.out, ← HB.out]; exact H5.out⟩
set_option maxRecDepth 100000 in
set_option maxHeartbeats 2000000 in
theorem writer_accent_else (left ch p l : Int) (hl : l ≠ 32) (hF : accentOf ch = (p, l, true)) (hd1 : left ≠ 102) (hd2 : left ≠ 6) (hL : findL 102 l codesAll = (l, true)) (hl2 : 0 ≤ l ∧ l ≤ 255) (xs : List Int) (hx : xs.length ≤ 900000) (A : Option Addr) (c g : Nat) (w0 w : World) (hH : WH w0 w g left xs A c) :
    Calls Try.prog 39 #[.pointer (some ⟨g, 0, none⟩), .int .i64 ch] w fun e w' => e = .returned (.bool true) ∧ ∃ A' c', WH w0 w' g (accLeft left l) (xs ++ accB2 left p l) A' c' := by
  have HE : Aside0 (csets_Accent.f 4000 ch = some (p, l, true)) := ⟨by rw [Accent_f _ _ (by omega), hF]⟩
  have HH := Aside0.mk hH
  have hc0 := cell_W0 hH
  have hc1 := cell_W1 hH
  have hf0 := blk_frozen hH.1 0
  have hf1 := blk_frozen hH.1 1
  clear hF hH
  have HP : Aside0 (accB2 left p l = escOf 102 ++ ([IntKind.u8.wrap (Go.bits .or .i64 p 128)] ++ [l])) := ⟨by rw [accB2, if_neg (fun h => h.elim hl (fun h => h.elim hd1 hd2))]; rfl⟩
  have HQ : Aside0 (accLeft left l = 102) := ⟨by rw [accLeft, if_neg (fun h => h.elim hl (fun h => h.elim hd1 hd2))]⟩
  have HL : Aside0 (csets_Find.f 4000 102 l = some (l, true)) := ⟨by rw [Find_f _ _ _ (by omega), hL]⟩
  have HB : Aside0 (placeB 102 l true = [l]) := ⟨by rw [placeB, if_pos rfl, if_neg (by decide), show IntKind.u8.wrap l = l from by simp [IntKind.wrap, IntKind.bits, IntKind.signed]; omega]⟩
  have HX : Aside0 (shift_Escape.f 4000 0 102 = some (escOf 102, 0)) := ⟨Escape_f 102 (by decide) _ (by omega)⟩
  have hx4 := escOf_len 102
  have hl3 : (l != 32) = true := by simp [hl]
  have hl4 : (l == 32) = false := by simp [hl]
  have hd3 : (left != 102) = true := by simp [hd1]
  have hd4 : (left != 6) = true := by simp [hd2]
  clear hl hL hd1 hd2
  go_enter Try.func39, Try.ntmps39
  generalize escOf 102 = esc at *
  go_wp2_with (first
    | (go_at_call 46; (with_reducible refine (csets_Accent.calls 4000 ch p l true _ HE.out).mono ?_); rintro e w1 ⟨rfl, hbw1⟩; have HH1 := Aside0.mk (HH.out.below hbw1); clear hbw1 HH hc0 hc1 hf0 hf1; obtain ⟨hc0, hc1, hf0, hf1⟩ := HH1.out.facts)
    | (go_at_call 40; (with_reducible refine (writer_designates 4000 102 left esc 0 HX.out (by omega) xs (by omega) A c g w0 _ HH1.out).mono ?_); rintro e w6 ⟨rfl, A6, c6, hn6⟩; have H6 := Aside0.mk hn6; clear hn6 HH1 hc0 hc1 hf0 hf1; have hlen6 : (xs ++ esc).length ≤ xs.length + 10 := (by simp; omega); obtain ⟨zs6, HZ6⟩ : ∃ zs6, Aside0 (xs ++ esc = zs6) := ⟨_, ⟨rfl⟩⟩; rw [HZ6.out] at H6 hlen6; obtain ⟨hc0, hc1, hf0, hf1⟩ := H6.out.facts)
    | (at_builtin; refine Kd.R_append (Kd.int .u8) (w0 := w0) w0.heap.size rfl (.tmp 38) (.tmp 42) 23 5 (.int .u8 0) 1 rfl Try.underlying23 info5 rfl (by decide) (by omega) _ zs6 (IntKind.u8.wrap (Go.bits .or .i64 p 128)) [.int .u8 (IntKind.u8.wrap (Go.bits .or .i64 p 128))] (fun _ => True) (fun _ => False) rfl rfl ?aP3 (fun _ hk => hk.elim) ?aF3 ?aO3 ?aB3 ?aS3 ?aL3 ?_))
  case aP3 => exact rfl
  first | (case aF3 => exact fun _ _ => trivial) | skip
  case aO3 => exact H6.out.2.2.1
  case aB3 => exact H6.out.2.2.2
  case aS3 => exact H6.out.2.2.2.size
  case aL3 => omega
  intro v3 w3 hR3 hBB3 hg3 hat3
  obtain ⟨A3, c3, ev3⟩ := Kd.R_slice hR3
  subst ev3
  have hblk3 := H6.out.stands hg3
  have H3 := Aside0.mk (H6.out.stored hg3 hR3 hBB3)
  clear hR3 hBB3 hg3 hat3 hc0 hc1 hf0 hf1
  have hlen3 : (zs6 ++ [IntKind.u8.wrap (Go.bits .or .i64 p 128)]).length ≤ zs6.length + 10 := by simp <;> omega
  obtain ⟨zs3, HZ3⟩ : ∃ zs3, Aside0 (zs6 ++ [IntKind.u8.wrap (Go.bits .or .i64 p 128)] = zs3) := ⟨_, ⟨rfl⟩⟩
  rw [HZ3.out] at H3 hlen3
  try rw [HZ3.out]
  have hf0 := blk_frozen hblk3 0
  have hf1 := blk_frozen hblk3 1
  have hc0 : w3.cell? ⟨g, 0, none⟩ = some (.int .i64 102) := (blk_cell hblk3 0).trans rfl
  have hc1 : w3.cell? ⟨g, 1, none⟩ = some (.slice A6 zs6.length c6) := (blk_cell hblk3 1).trans rfl
  clear hblk3
  go_upto_region 7 with fail
  generalize w3.setCell ⟨g, 1, none⟩ (.slice A3 zs3.length c3) = wa3 at *
  clear hc0 hc1 hf0 hf1
  obtain ⟨hc0, hc1, hf0, hf1⟩ := H3.out.facts
  go_wp2_with (first
    | (go_at_call 37; (with_reducible refine (writer_place 4000 102 l l true HL.out zs3 (by omega) A3 c3 g w0 _ H3.out).mono ?_); rintro e w5 ⟨rfl, A5, c5, hn5⟩; have H5 := Aside0.mk hn5; clear hn5 H3 hc0 hc1 hf0 hf1; obtain ⟨hc0, hc1, hf0, hf1⟩ := H5.out.facts))
  go_ret
  exact ⟨rfl, A5, c5, by rw [HQ.out, HP.out, ← List.append_assoc, HZ6.out, ← List.append_assoc, HZ3.out, ← HB.out]; exact H5.out⟩
theorem writer_accent (left ch : Int) (xs : List Int) (hx : xs.length ≤ 900000) (A : Option Addr) (c g : Nat) (w0 w : World) (hH : WH w0 w g left xs A c) :
    Calls Try.prog 39 #[.pointer (some ⟨g, 0, none⟩), .int .i64 ch] w fun e w' => e = .returned (.bool (accentOf ch).2.2) ∧ ∃ A' c', WH w0 w' g (if (accentOf ch).2.2 = true then accLeft left (accentOf ch).2.1 else left) (if (accentOf ch).2.2 = true then xs ++ accB2 left (accentOf ch).1 (accentOf ch).2.1 else xs) A' c' := by
  have hW := accent_worth ch
  obtain ⟨p, l, is, hF⟩ : ∃ p l is, accentOf ch = (p, l, is) := ⟨_, _, _, rfl⟩
  rw [hF] at hW ⊢
  cases is with
  | false => simpa using writer_accent_no left ch p l hF xs hx A c g w0 w hH
  | true =>
    simp only [Worth, if_true] at hW ⊢
    obtain ⟨n, lone, _, hd⟩ := hW
    rcases hd with ⟨h1, _⟩ | ⟨h1, _, h3⟩
    · subst h1
      exact writer_accent_space left ch p hF xs hx A c g w0 w hH
    · obtain ⟨h4, h5⟩ := letter_own l h3
      by_cases c1 : left = 102
      · exact writer_accent_in left ch p l h1 hF (.inl c1) (by rw [c1]; exact h4) (by omega) xs hx A c g w0 w hH
      · by_cases c2 : left = 6
        · exact writer_accent_in left ch p l h1 hF (.inr c2) (by rw [c2]; exact h5) (by omega) xs hx A c g w0 w hH
        · exact writer_accent_else left ch p l h1 hF c1 c2 h4 (by omega) xs hx A c g w0 w hH
theorem writer_accent_yes (left ch : Int) (hA : (accentOf ch).2.2 = true) (xs : List Int) (hx : xs.length ≤ 900000) (A : Option Addr) (c g : Nat) (w0 w : World) (hH : WH w0 w g left xs A c) :
    Calls Try.prog 39 #[.pointer (some ⟨g, 0, none⟩), .int .i64 ch] w fun e w' => e = .returned (.bool true) ∧ ∃ A' c', WH w0 w' g (accLeft left (accentOf ch).2.1) (xs ++ accB2 left (accentOf ch).1 (accentOf ch).2.1) A' c' := by
  have h := writer_accent left ch xs hx A c g w0 w hH
  simpa only [hA, if_true] using h
theorem writer_accent_not (left ch : Int) (hA : (accentOf ch).2.2 = false) (xs : List Int) (hx : xs.length ≤ 900000) (A : Option Addr) (c g : Nat) (w0 w : World) (hH : WH w0 w g left xs A c) :
    Calls Try.prog 39 #[.pointer (some ⟨g, 0, none⟩), .int .i64 ch] w fun e w' => e = .returned (.bool false) ∧ ∃ A' c', WH w0 w' g left xs A' c' := by
  have h := writer_accent left ch xs hx A c g w0 w hH
  simpa only [hA, Bool.false_eq_true, if_false] using h
set_option maxRecDepth 100000 in
set_option maxHeartbeats 2000000 in
theorem scalar_ctl (left ch : Int) (hC : ch ∈ ctlAll) (xs : List Int) (hx : xs.length ≤ 800000) (A : Option Addr) (c g : Nat) (w0 w : World) (hH : WH w0 w g left xs A c) :
    Calls Try.prog 25 #[.pointer (some ⟨g, 0, none⟩), .int .i64 ch] w fun e w' => e = .returned (.bool true) ∧ ∃ A' c', WH w0 w' g (left) (xs ++ [IntKind.u8.wrap ch]) A' c' := by
  have HC : Aside0 (slices_Contains_int_int.f 4000 ctlAll ch = some true) := ⟨by rw [Contains_f _ _ _ (by decide) (by decide)]; simp [hC]⟩
  have HH := Aside0.mk hH
  have hc0 := cell_W0 hH
  have hc1 := cell_W1 hH
  have hf0 := blk_frozen hH.1 0
  have hf1 := blk_frozen hH.1 1
  clear hC hH
  go_enter Try.func25, Try.ntmps25
  go_wp2_with (first
    | ((with_reducible refine gate_dst (N := 11) rfl ?_); refine Kd.R_lit (Kd.int .i64) (w0 := w) w.heap.size 3 ?hgL (N := 11) ?hdL (xs := ctlAll) (inner := [.int .i64 8, .int .i64 10, .int .i64 12, .int .i64 13, .int .i64 32]) (ok := fun _ => True) (okp := fun _ => True) ?hrL ?hpL (fun _ hk => hk) trivial (Below.refl _ _) (Nat.le_refl _) (by decide) ?_; (case hdL => rfl); (case hgL => rfl); (case hrL => first | (go_simp; done) | (go_simp; rfl)); (case hpL => exact (Reps.one rfl (Reps.one rfl (Reps.one rfl (Reps.one rfl (Reps.one rfl (Reps.none _ _))))))); intro vL wL hoL hbL hgL hnewL; clear hgL hnewL; obtain ⟨AL, cL, eL⟩ := Kd.R_slice hoL; subst eL; have HOL := Aside0.mk hoL; have HHL := Aside0.mk (HH.out.below hbL); clear hoL hbL HH hc0 hc1 hf0 hf1; obtain ⟨hc0, hc1, hf0, hf1⟩ := HHL.out.facts)
    | (go_at_call 33; (with_reducible refine (slices_Contains_int_int.calls 4000 _ _ ctlAll ch true _ (Kd.R_reads' HOL.out).2.2 (Kd.R_reads' HOL.out).2.1 HC.out).mono ?_); rintro e w1 ⟨rfl, hd⟩; have hbw1 : Below wL.heap.size wL w1 := (by obtain ⟨nd, rfl⟩ := hd; exact pw_below_drewN (Below.refl _ _) nd); have HH1 := Aside0.mk (HHL.out.below hbw1); clear hbw1 HHL hc0 hc1 hf0 hf1 hd; obtain ⟨hc0, hc1, hf0, hf1⟩ := HH1.out.facts)
    | (at_builtin; refine Kd.R_append (Kd.int .u8) (w0 := w0) w0.heap.size rfl (.tmp 18) (.tmp 21) 23 5 (.int .u8 0) 1 rfl Try.underlying23 info5 rfl (by decide) (by omega) _ xs (IntKind.u8.wrap ch) [.int .u8 (IntKind.u8.wrap ch)] (fun _ => True) (fun _ => False) rfl rfl ?aP3 (fun _ hk => hk.elim) ?aF3 ?aO3 ?aB3 ?aS3 ?aL3 ?_))
  case aP3 => exact rfl
  first | (case aF3 => exact fun _ _ => trivial) | skip
  case aO3 => exact HH1.out.2.2.1
  case aB3 => exact HH1.out.2.2.2
  case aS3 => exact HH1.out.2.2.2.size
  case aL3 => omega
  intro v3 w3 hR3 hBB3 hg3 hat3
  obtain ⟨A3, c3, ev3⟩ := Kd.R_slice hR3
  subst ev3
  have hblk3 := HH1.out.stands hg3
  have H3 := Aside0.mk (HH1.out.stored hg3 hR3 hBB3)
  clear hR3 hBB3 hg3 hat3 hc0 hc1 hf0 hf1
  have hlen3 : (xs ++ [IntKind.u8.wrap ch]).length ≤ xs.length + 10 := by simp <;> omega
  obtain ⟨zs3, HZ3⟩ : ∃ zs3, Aside0 (xs ++ [IntKind.u8.wrap ch] = zs3) := ⟨_, ⟨rfl⟩⟩
  rw [HZ3.out] at H3 hlen3
  try rw [HZ3.out]
  have hf0 := blk_frozen hblk3 0
  have hf1 := blk_frozen hblk3 1
  have hc0 : w3.cell? ⟨g, 0, none⟩ = some (.int .i64 left) := (blk_cell hblk3 0).trans rfl
  have hc1 : w3.cell? ⟨g, 1, none⟩ = some (.slice A xs.length c) := (blk_cell hblk3 1).trans rfl
  clear hblk3
  go_wp2
  go_ret
  exact ⟨rfl, A3, c3, by rw [HZ3.out]; exact H3.out⟩
set_option maxRecDepth 100000 in
set_option maxHeartbeats 2000000 in
theorem scalar_left (left ch p0 : Int) (hC : ¬ ch ∈ ctlAll) (hL : findL left ch codesAll = (p0, true)) (xs : List Int) (hx : xs.length ≤ 800000) (A : Option Addr) (c g : Nat) (w0 w : World) (hH : WH w0 w g left xs A c) :
    Calls Try.prog 25 #[.pointer (some ⟨g, 0, none⟩), .int .i64 ch] w fun e w' => e = .returned (.bool true) ∧ ∃ A' c', WH w0 w' g (left) (xs ++ placeB left p0 true) A' c' := by
  have HC : Aside0 (slices_Contains_int_int.f 4000 ctlAll ch = some false) := ⟨by rw [Contains_f _ _ _ (by decide) (by decide)]; simp [hC]⟩
  have HL : Aside0 (csets_Find.f 4000 left ch = some (p0, true)) := ⟨by rw [Find_f _ _ _ (by omega), hL]⟩
  have HH := Aside0.mk hH
  have hc0 := cell_W0 hH
  have hc1 := cell_W1 hH
  have hf0 := blk_frozen hH.1 0
  have hf1 := blk_frozen hH.1 1
  clear hC hH hL
  go_enter Try.func25, Try.ntmps25
  go_wp2_with (first
    | ((with_reducible refine gate_dst (N := 11) rfl ?_); refine Kd.R_lit (Kd.int .i64) (w0 := w) w.heap.size 3 ?hgL (N := 11) ?hdL (xs := ctlAll) (inner := [.int .i64 8, .int .i64 10, .int .i64 12, .int .i64 13, .int .i64 32]) (ok := fun _ => True) (okp := fun _ => True) ?hrL ?hpL (fun _ hk => hk) trivial (Below.refl _ _) (Nat.le_refl _) (by decide) ?_; (case hdL => rfl); (case hgL => rfl); (case hrL => first | (go_simp; done) | (go_simp; rfl)); (case hpL => exact (Reps.one rfl (Reps.one rfl (Reps.one rfl (Reps.one rfl (Reps.one rfl (Reps.none _ _))))))); intro vL wL hoL hbL hgL hnewL; clear hgL hnewL; obtain ⟨AL, cL, eL⟩ := Kd.R_slice hoL; subst eL; have HOL := Aside0.mk hoL; have HHL := Aside0.mk (HH.out.below hbL); clear hoL hbL HH hc0 hc1 hf0 hf1; obtain ⟨hc0, hc1, hf0, hf1⟩ := HHL.out.facts)
    | (go_at_call 33; (with_reducible refine (slices_Contains_int_int.calls 4000 _ _ ctlAll ch false _ (Kd.R_reads' HOL.out).2.2 (Kd.R_reads' HOL.out).2.1 HC.out).mono ?_); rintro e w1 ⟨rfl, hd⟩; have hbw1 : Below wL.heap.size wL w1 := (by obtain ⟨nd, rfl⟩ := hd; exact pw_below_drewN (Below.refl _ _) nd); have HH1 := Aside0.mk (HHL.out.below hbw1); clear hbw1 HHL hc0 hc1 hf0 hf1 hd; obtain ⟨hc0, hc1, hf0, hf1⟩ := HH1.out.facts)
    | (go_at_call 37; (with_reducible refine (writer_place 4000 left ch p0 true HL.out xs (by omega) A c g w0 _ HH1.out).mono ?_); rintro e w2 ⟨rfl, A2, c2, hn2⟩; have H2 := Aside0.mk hn2; clear hn2 HH1 hc0 hc1 hf0 hf1; obtain ⟨hc0, hc1, hf0, hf1⟩ := H2.out.facts))
  go_ret
  exact ⟨rfl, A2, c2, H2.out⟩
set_option maxRecDepth 100000 in
set_option maxHeartbeats 2000000 in
theorem scalar_right (left ch p0 p : Int) (hC : ¬ ch ∈ ctlAll) (hL : findL left ch codesAll = (p0, false)) (hF : findL 103 ch codesAll = (p, true)) (xs : List Int) (hx : xs.length ≤ 800000) (A : Option Addr) (c g : Nat) (w0 w : World) (hH : WH w0 w g left xs A c) :
    Calls Try.prog 25 #[.pointer (some ⟨g, 0, none⟩), .int .i64 ch] w fun e w' => e = .returned (.bool true) ∧ ∃ A' c', WH w0 w' g (left) (xs ++ [IntKind.u8.wrap (Go.bits .or .i64 p 128)]) A' c' := by
  have HC : Aside0 (slices_Contains_int_int.f 4000 ctlAll ch = some false) := ⟨by rw [Contains_f _ _ _ (by decide) (by decide)]; simp [hC]⟩
  have HL : Aside0 (csets_Find.f 4000 left ch = some (p0, false)) := ⟨by rw [Find_f _ _ _ (by omega), hL]⟩
  have HF : Aside0 (csets_Find.f 4000 103 ch = some (p, true)) := ⟨by rw [Find_f _ _ _ (by omega), hF]⟩
  have HH := Aside0.mk hH
  have hc0 := cell_W0 hH
  have hc1 := cell_W1 hH
  have hf0 := blk_frozen hH.1 0
  have hf1 := blk_frozen hH.1 1
  clear hC hH hL hF
  go_enter Try.func25, Try.ntmps25
  go_wp2_with (first
    | ((with_reducible refine gate_dst (N := 11) rfl ?_); refine Kd.R_lit (Kd.int .i64) (w0 := w) w.heap.size 3 ?hgL (N := 11) ?hdL (xs := ctlAll) (inner := [.int .i64 8, .int .i64 10, .int .i64 12, .int .i64 13, .int .i64 32]) (ok := fun _ => True) (okp := fun _ => True) ?hrL ?hpL (fun _ hk => hk) trivial (Below.refl _ _) (Nat.le_refl _) (by decide) ?_; (case hdL => rfl); (case hgL => rfl); (case hrL => first | (go_simp; done) | (go_simp; rfl)); (case hpL => exact (Reps.one rfl (Reps.one rfl (Reps.one rfl (Reps.one rfl (Reps.one rfl (Reps.none _ _))))))); intro vL wL hoL hbL hgL hnewL; clear hgL hnewL; obtain ⟨AL, cL, eL⟩ := Kd.R_slice hoL; subst eL; have HOL := Aside0.mk hoL; have HHL := Aside0.mk (HH.out.below hbL); clear hoL hbL HH hc0 hc1 hf0 hf1; obtain ⟨hc0, hc1, hf0, hf1⟩ := HHL.out.facts)
    | (go_at_call 33; (with_reducible refine (slices_Contains_int_int.calls 4000 _ _ ctlAll ch false _ (Kd.R_reads' HOL.out).2.2 (Kd.R_reads' HOL.out).2.1 HC.out).mono ?_); rintro e w1 ⟨rfl, hd⟩; have hbw1 : Below wL.heap.size wL w1 := (by obtain ⟨nd, rfl⟩ := hd; exact pw_below_drewN (Below.refl _ _) nd); have HH1 := Aside0.mk (HHL.out.below hbw1); clear hbw1 HHL hc0 hc1 hf0 hf1 hd; obtain ⟨hc0, hc1, hf0, hf1⟩ := HH1.out.facts)
    | (go_at_call 37; (with_reducible refine (writer_place 4000 left ch p0 false HL.out xs (by omega) A c g w0 _ HH1.out).mono ?_); rintro e w2 ⟨rfl, A2, c2, hn2⟩; have H2 := Aside0.mk hn2; clear hn2 HH1 hc0 hc1 hf0 hf1; rw [show xs ++ placeB left p0 false = xs from (by rw [show placeB left p0 false = [] from rfl, List.append_nil])] at H2; obtain ⟨hc0, hc1, hf0, hf1⟩ := H2.out.facts)
    | (go_at_call 38; (with_reducible refine (csets_Find.calls 4000 103 ch p true _ HF.out).mono ?_); rintro e w3 ⟨rfl, hbw3⟩; have H3 := Aside0.mk (H2.out.below hbw3); clear hbw3 H2 hc0 hc1 hf0 hf1; obtain ⟨hc0, hc1, hf0, hf1⟩ := H3.out.facts)
    | (at_builtin; refine Kd.R_append (Kd.int .u8) (w0 := w0) w0.heap.size rfl (.tmp 38) (.tmp 42) 23 5 (.int .u8 0) 1 rfl Try.underlying23 info5 rfl (by decide) (by omega) _ xs (IntKind.u8.wrap (Go.bits .or .i64 p 128)) [.int .u8 (IntKind.u8.wrap (Go.bits .or .i64 p 128))] (fun _ => True) (fun _ => False) rfl rfl ?aP4 (fun _ hk => hk.elim) ?aF4 ?aO4 ?aB4 ?aS4 ?aL4 ?_))
  case aP4 => exact rfl
  first | (case aF4 => exact fun _ _ => trivial) | skip
  case aO4 => exact H3.out.2.2.1
  case aB4 => exact H3.out.2.2.2
  case aS4 => exact H3.out.2.2.2.size
  case aL4 => omega
  intro v4 w4 hR4 hBB4 hg4 hat4
  obtain ⟨A4, c4, ev4⟩ := Kd.R_slice hR4
  subst ev4
  have hblk4 := H3.out.stands hg4
  have H4 := Aside0.mk (H3.out.stored hg4 hR4 hBB4)
  clear hR4 hBB4 hg4 hat4 hc0 hc1 hf0 hf1
  have hlen4 : (xs ++ [IntKind.u8.wrap (Go.bits .or .i64 p 128)]).length ≤ xs.length + 10 := by simp <;> omega
  obtain ⟨zs4, HZ4⟩ : ∃ zs4, Aside0 (xs ++ [IntKind.u8.wrap (Go.bits .or .i64 p 128)] = zs4) := ⟨_, ⟨rfl⟩⟩
  rw [HZ4.out] at H4 hlen4
  try rw [HZ4.out]
  have hf0 := blk_frozen hblk4 0
  have hf1 := blk_frozen hblk4 1
  have hc0 : w4.cell? ⟨g, 0, none⟩ = some (.int .i64 left) := (blk_cell hblk4 0).trans rfl
  have hc1 : w4.cell? ⟨g, 1, none⟩ = some (.slice A2 xs.length c2) := (blk_cell hblk4 1).trans rfl
  clear hblk4
  go_wp2
  go_ret
  exact ⟨rfl, A4, c4, by rw [HZ4.out]; exact H4.out⟩
set_option maxRecDepth 100000 in
set_option maxHeartbeats 2000000 in
theorem scalar_accent (left ch p0 p : Int) (hC : ¬ ch ∈ ctlAll) (hL : findL left ch codesAll = (p0, false)) (hF : findL 103 ch codesAll = (p, false)) (hA : (accentOf ch).2.2 = true) (xs : List Int) (hx : xs.length ≤ 800000) (A : Option Addr) (c g : Nat) (w0 w : World) (hH : WH w0 w g left xs A c) :
    Calls Try.prog 25 #[.pointer (some ⟨g, 0, none⟩), .int .i64 ch] w fun e w' => e = .returned (.bool true) ∧ ∃ A' c', WH w0 w' g (accLeft left (accentOf ch).2.1) (xs ++ accB2 left (accentOf ch).1 (accentOf ch).2.1) A' c' := by
  have HC : Aside0 (slices_Contains_int_int.f 4000 ctlAll ch = some false) := ⟨by rw [Contains_f _ _ _ (by decide) (by decide)]; simp [hC]⟩
  have HL : Aside0 (csets_Find.f 4000 left ch = some (p0, false)) := ⟨by rw [Find_f _ _ _ (by omega), hL]⟩
  have HF : Aside0 (csets_Find.f 4000 103 ch = some (p, false)) := ⟨by rw [Find_f _ _ _ (by omega), hF]⟩
  have HA := Aside0.mk hA
  have HH := Aside0.mk hH
  have hc0 := cell_W0 hH
  have hc1 := cell_W1 hH
  have hf0 := blk_frozen hH.1 0
  have hf1 := blk_frozen hH.1 1
  clear hC hH hL hF hA
  go_enter Try.func25, Try.ntmps25
  go_wp2_with (first
    | ((with_reducible refine gate_dst (N := 11) rfl ?_); refine Kd.R_lit (Kd.int .i64) (w0 := w) w.heap.size 3 ?hgL (N := 11) ?hdL (xs := ctlAll) (inner := [.int .i64 8, .int .i64 10, .int .i64 12, .int .i64 13, .int .i64 32]) (ok := fun _ => True) (okp := fun _ => True) ?hrL ?hpL (fun _ hk => hk) trivial (Below.refl _ _) (Nat.le_refl _) (by decide) ?_; (case hdL => rfl); (case hgL => rfl); (case hrL => first | (go_simp; done) | (go_simp; rfl)); (case hpL => exact (Reps.one rfl (Reps.one rfl (Reps.one rfl (Reps.one rfl (Reps.one rfl (Reps.none _ _))))))); intro vL wL hoL hbL hgL hnewL; clear hgL hnewL; obtain ⟨AL, cL, eL⟩ := Kd.R_slice hoL; subst eL; have HOL := Aside0.mk hoL; have HHL := Aside0.mk (HH.out.below hbL); clear hoL hbL HH hc0 hc1 hf0 hf1; obtain ⟨hc0, hc1, hf0, hf1⟩ := HHL.out.facts)
    | (go_at_call 33; (with_reducible refine (slices_Contains_int_int.calls 4000 _ _ ctlAll ch false _ (Kd.R_reads' HOL.out).2.2 (Kd.R_reads' HOL.out).2.1 HC.out).mono ?_); rintro e w1 ⟨rfl, hd⟩; have hbw1 : Below wL.heap.size wL w1 := (by obtain ⟨nd, rfl⟩ := hd; exact pw_below_drewN (Below.refl _ _) nd); have HH1 := Aside0.mk (HHL.out.below hbw1); clear hbw1 HHL hc0 hc1 hf0 hf1 hd; obtain ⟨hc0, hc1, hf0, hf1⟩ := HH1.out.facts)
    | (go_at_call 37; (with_reducible refine (writer_place 4000 left ch p0 false HL.out xs (by omega) A c g w0 _ HH1.out).mono ?_); rintro e w2 ⟨rfl, A2, c2, hn2⟩; have H2 := Aside0.mk hn2; clear hn2 HH1 hc0 hc1 hf0 hf1; rw [show xs ++ placeB left p0 false = xs from (by rw [show placeB left p0 false = [] from rfl, List.append_nil])] at H2; obtain ⟨hc0, hc1, hf0, hf1⟩ := H2.out.facts)
    | (go_at_call 38; (with_reducible refine (csets_Find.calls 4000 103 ch p false _ HF.out).mono ?_); rintro e w3 ⟨rfl, hbw3⟩; have H3 := Aside0.mk (H2.out.below hbw3); clear hbw3 H2 hc0 hc1 hf0 hf1; obtain ⟨hc0, hc1, hf0, hf1⟩ := H3.out.facts)
    | (go_at_call 39; (with_reducible refine (writer_accent_yes left ch HA.out xs (by omega) A2 c2 g w0 _ H3.out).mono ?_); rintro e w4 ⟨rfl, A4, c4, hn4⟩; have H4 := Aside0.mk hn4; clear hn4 H3 hc0 hc1 hf0 hf1; obtain ⟨hc0, hc1, hf0, hf1⟩ := H4.out.facts))
  go_ret
  exact ⟨rfl, A4, c4, H4.out⟩
set_option maxRecDepth 100000 in
set_option maxHeartbeats 2000000 in
theorem scalar_else (left ch p0 p : Int) (hC : ¬ ch ∈ ctlAll) (hL : findL left ch codesAll = (p0, false)) (hF : findL 103 ch codesAll = (p, false)) (hA : (accentOf ch).2.2 = false) (r : Int × List Int × Bool) (hr : r = match setFind ch setsAll with | some s => (s, escOf s ++ plB s ch, true) | none => (left, [], false)) (xs : List Int) (hx : xs.length ≤ 800000) (A : Option Addr) (c g : Nat) (w0 w : World) (hH : WH w0 w g left xs A c) :
    Calls Try.prog 25 #[.pointer (some ⟨g, 0, none⟩), .int .i64 ch] w fun e w' => e = .returned (.bool r.2.2) ∧ ∃ A' c', WH w0 w' g (r.1) (xs ++ r.2.1) A' c' := by
  have HC : Aside0 (slices_Contains_int_int.f 4000 ctlAll ch = some false) := ⟨by rw [Contains_f _ _ _ (by decide) (by decide)]; simp [hC]⟩
  have HL : Aside0 (csets_Find.f 4000 left ch = some (p0, false)) := ⟨by rw [Find_f _ _ _ (by omega), hL]⟩
  have HF : Aside0 (csets_Find.f 4000 103 ch = some (p, false)) := ⟨by rw [Find_f _ _ _ (by omega), hF]⟩
  have HA := Aside0.mk hA
  have HR := Aside0.mk hr
  have HH := Aside0.mk hH
  have hc0 := cell_W0 hH
  have hc1 := cell_W1 hH
  have hf0 := blk_frozen hH.1 0
  have hf1 := blk_frozen hH.1 1
  clear hC hH hL hF hA hr
  go_enter Try.func25, Try.ntmps25
  go_wp2_with (first
    | ((with_reducible refine gate_dst (N := 11) rfl ?_); refine Kd.R_lit (Kd.int .i64) (w0 := w) w.heap.size 3 ?hgL (N := 11) ?hdL (xs := ctlAll) (inner := [.int .i64 8, .int .i64 10, .int .i64 12, .int .i64 13, .int .i64 32]) (ok := fun _ => True) (okp := fun _ => True) ?hrL ?hpL (fun _ hk => hk) trivial (Below.refl _ _) (Nat.le_refl _) (by decide) ?_; (case hdL => rfl); (case hgL => rfl); (case hrL => first | (go_simp; done) | (go_simp; rfl)); (case hpL => exact (Reps.one rfl (Reps.one rfl (Reps.one rfl (Reps.one rfl (Reps.one rfl (Reps.none _ _))))))); intro vL wL hoL hbL hgL hnewL; clear hgL hnewL; obtain ⟨AL, cL, eL⟩ := Kd.R_slice hoL; subst eL; have HOL := Aside0.mk hoL; have HHL := Aside0.mk (HH.out.below hbL); clear hoL hbL HH hc0 hc1 hf0 hf1; obtain ⟨hc0, hc1, hf0, hf1⟩ := HHL.out.facts)
    | (go_at_call 33; (with_reducible refine (slices_Contains_int_int.calls 4000 _ _ ctlAll ch false _ (Kd.R_reads' HOL.out).2.2 (Kd.R_reads' HOL.out).2.1 HC.out).mono ?_); rintro e w1 ⟨rfl, hd⟩; have hbw1 : Below wL.heap.size wL w1 := (by obtain ⟨nd, rfl⟩ := hd; exact pw_below_drewN (Below.refl _ _) nd); have HH1 := Aside0.mk (HHL.out.below hbw1); clear hbw1 HHL hc0 hc1 hf0 hf1 hd; obtain ⟨hc0, hc1, hf0, hf1⟩ := HH1.out.facts)
    | (go_at_call 37; (with_reducible refine (writer_place 4000 left ch p0 false HL.out xs (by omega) A c g w0 _ HH1.out).mono ?_); rintro e w2 ⟨rfl, A2, c2, hn2⟩; have H2 := Aside0.mk hn2; clear hn2 HH1 hc0 hc1 hf0 hf1; rw [show xs ++ placeB left p0 false = xs from (by rw [show placeB left p0 false = [] from rfl, List.append_nil])] at H2; obtain ⟨hc0, hc1, hf0, hf1⟩ := H2.out.facts)
    | (go_at_call 38; (with_reducible refine (csets_Find.calls 4000 103 ch p false _ HF.out).mono ?_); rintro e w3 ⟨rfl, hbw3⟩; have H3 := Aside0.mk (H2.out.below hbw3); clear hbw3 H2 hc0 hc1 hf0 hf1; obtain ⟨hc0, hc1, hf0, hf1⟩ := H3.out.facts)
    | (go_at_call 39; (with_reducible refine (writer_accent_not left ch HA.out xs (by omega) A2 c2 g w0 _ H3.out).mono ?_); rintro e w4 ⟨rfl, A4, c4, hn4⟩; have H4 := Aside0.mk hn4; clear hn4 H3 hc0 hc1 hf0 hf1; obtain ⟨hc0, hc1, hf0, hf1⟩ := H4.out.facts)
    | (go_at_call 24; (with_reducible refine (api_Sets.calls setsAll _ rfl).mono ?_); rintro e w5 ⟨v5, rfl, ho5, hbw5⟩; have HO5 := Aside0.mk ho5; have H5 := Aside0.mk (H4.out.below hbw5); clear ho5 hbw5 H4 hc0 hc1 hf0 hf1; obtain ⟨As, cs, es⟩ := Kd.R_slice HO5.out; subst es; obtain ⟨hc0, hc1, hf0, hf1⟩ := H5.out.facts))
  have HS : Aside0 (Kd.C (Kd.int .i64) w5 As setsAll.length setsAll) := ⟨(Kd.R_reads' HO5.out).2.2⟩
  clear HO5 hc0 hc1 hf0 hf1 HL HF HA HC
  go_loopw [51] (fun v wr => ∃ k : Nat, v = .int .i64 k ∧ k ≤ 6 ∧ Aside0 (setFind ch (setsAll.drop k) = setFind ch setsAll) ∧ Aside0 (WH w0 wr g left xs A4 c4) ∧ Aside0 (Kd.C (Kd.int .i64) wr As setsAll.length setsAll)) (fun v _ => 6 - (intOf v).toNat)
  case atStart => exact ⟨0, rfl, by omega, ⟨rfl⟩, H5, HS⟩
  case round =>
    clear H5 HS
    obtain ⟨i, rfl, hi, HE, HH, HS⟩ := hrel
    by_cases hlt : i < 6
    · obtain ⟨ad, e, hx5⟩ := Kd.at_int HS.out (i : Int) (by omega) (by show (i : Int) < 6; omega)
      subst e
      have hlen : i < setsAll.length := hlt
      have e2 : rd setsAll (i : Int) = setsAll[i] := rd_at _ _ hlen
      rw [Int.toNat_natCast, e2] at hx5
      have HE2 : Aside0 (setFind ch (setsAll[i] :: setsAll.drop (i + 1)) = setFind ch setsAll) := ⟨by rw [← List.drop_eq_getElem_cons hlen]; exact HE.out⟩
      have HM : Aside0 (setsAll[i] ∈ setsAll) := ⟨List.getElem_mem _⟩
      clear HE
      generalize setsAll[i] = s at *
      clear e2 hlen
      obtain ⟨q, is, HQ⟩ : ∃ q is, Aside0 (findL s ch codesAll = (q, is)) := ⟨_, _, ⟨rfl⟩⟩
      have HK : Aside0 (csets_Find.f 4000 s ch = some (q, is)) := ⟨by rw [Find_f _ _ _ (by omega), HQ.out]⟩
      obtain ⟨hc0, hc1, hf0, hf1⟩ := HH.out.facts
      cases is with
      | true =>
        have HX : Aside0 (shift_Escape.f 4000 0 s = some (escOf s, 0)) := ⟨Escape_f s (finals_all s HM.out) _ (by omega)⟩
        have hx4 := escOf_len s
        have HR2 : Aside0 (r = (s, escOf s ++ placeB s q true, true)) := ⟨by rw [HR.out, ← HE2.out, setFind, HQ.out, if_pos rfl]; show (s, escOf s ++ plB s ch, true) = _; rw [plB, HQ.out]⟩
        generalize escOf s = esc at *
        go_wp2_with (first
          | (go_at_call 38; (with_reducible refine (csets_Find.calls 4000 s ch q true _ HK.out).mono ?_); rintro e w6 ⟨rfl, hbw6⟩; have H6 := Aside0.mk (HH.out.below hbw6); clear hbw6 HH hc0 hc1 hf0 hf1; obtain ⟨hc0, hc1, hf0, hf1⟩ := H6.out.facts)
          | (go_at_call 40; (with_reducible refine (writer_designates 4000 s left esc 0 HX.out (by omega) xs (by omega) A4 c4 g w0 _ H6.out).mono ?_); rintro e w7 ⟨rfl, A7, c7, hn7⟩; have H7 := Aside0.mk hn7; clear hn7 H6 hc0 hc1 hf0 hf1; have hlen7 : (xs ++ esc).length ≤ xs.length + 10 := (by simp; omega); obtain ⟨zs7, HZ7⟩ : ∃ zs7, Aside0 (xs ++ esc = zs7) := ⟨_, ⟨rfl⟩⟩; rw [HZ7.out] at H7 hlen7; obtain ⟨hc0, hc1, hf0, hf1⟩ := H7.out.facts)
          | (go_at_call 37; (with_reducible refine (writer_place 4000 s ch q true HK.out zs7 (by omega) A7 c7 g w0 _ H7.out).mono ?_); rintro e w8 ⟨rfl, A8, c8, hn8⟩; have H8 := Aside0.mk hn8; clear hn8 H7 hc0 hc1 hf0 hf1; obtain ⟨hc0, hc1, hf0, hf1⟩ := H8.out.facts))
        go_ret
        exact ⟨by rw [HR2.out]; rfl, A8, c8, by rw [HR2.out]; show WH w0 _ g s (xs ++ (esc ++ placeB s q true)) A8 c8; rw [← List.append_assoc, HZ7.out]; exact H8.out⟩
      | false =>
        have HE3 : Aside0 (setFind ch (setsAll.drop (i + 1)) = setFind ch setsAll) := ⟨by have := HE2.out; rw [setFind, HQ.out, if_neg Bool.false_ne_true] at this; exact this⟩
        go_wp2_with (first
          | (go_at_call 38; (with_reducible refine (csets_Find.calls 4000 s ch q false _ HK.out).mono ?_); rintro e w6 ⟨rfl, hbw6⟩; have H6 := Aside0.mk (HH.out.below hbw6); have HS6 := Aside0.mk (Kd.C_below HS.out hbw6); clear hbw6 HH HS hc0 hc1 hf0 hf1 hx5; obtain ⟨hc0, hc1, hf0, hf1⟩ := H6.out.facts))
        go_roundw
        case rel => exact ⟨i + 1, by go_num, by omega, HE3, H6, HS6⟩
        case measure => simp [intOf]; omega
    · have HR2 : Aside0 (r = (left, [], false)) := ⟨by have h1 := HE.out; rw [show i = 6 by omega, show setsAll.drop 6 = [] from rfl] at h1; rw [HR.out, ← h1]; rfl⟩
      go_wp2
      go_ret
      exact ⟨by rw [HR2.out]; rfl, A4, c4, by rw [HR2.out]; show WH w0 _ g left (xs ++ []) A4 c4; rw [List.append_nil]; exact HH.out⟩
end Go.Proofs.Ytgcdfchchphpjaa.M
