/- Proved here, by hand: what the methods of shift.reader and Tokens come to. -/
import Derived.Test.YtgcdfchchphpjaaM9
import Derived.Test.YtgcdfchchphpjaaM1
import Derived.Test.YtgcdfchchphpjaaLCsets
import Derived.OneCell
import Derived.IntWalk
namespace Go.Proofs.Ytgcdfchchphpjaa.M
set_option linter.unusedVariables false
set_option linter.unusedSimpArgs false
open Go.RowKit Go.Proofs.YtgcdfchchphpjaaW.PrintWords Go.Proofs.YtgcdfchchphpjaaW.PrintLast Go.Proofs.YtgcdfchchphpjaaW.PrintMore

theorem infoTok : (Try.prog.info? 74).map (fun i => (i.zero, i.size, i.bytes)) = some (some (.agg #[(.int .i64 0), (.int .i64 0)]), 2, 16) := by kernel_rfl
/-- What a reader holds, but for its bytes. -/
structure Rd where
  i : Int
  g0 : Int
  g1 : Int
  g2 : Int
  g3 : Int
  left : Int
  right : Int
  out : List S74
/-- A reader at block g. -/
def RH (w0 W : World) (g : Nat) (bs : List Int) (Ab : Option Addr) (cb : Nat) (s : Rd) (Ao : Option Addr) (co : Nat) : Prop :=
  W.heap[g]? = some (.cells #[.slice Ab bs.length cb, .int .i64 s.i, .int .i64 s.g0, .int .i64 s.g1, .int .i64 s.g2, .int .i64 s.g3, .int .i64 s.left, .int .i64 s.right, .slice Ao s.out.length co] 71 (0, 0)) ∧ w0.heap.size ≤ g ∧ Kd.C (Kd.int .u8) w0 Ab bs.length bs ∧ Kd.R k74 74 W w0.heap.size (fun _ => True) (.slice Ao s.out.length co) s.out ∧ Below w0.heap.size w0 W
section
variable {w0 W W1 : World} {g : Nat} {bs : List Int} {Ab : Option Addr} {cb : Nat} {s : Rd} {Ao : Option Addr} {co : Nat}
theorem RH.below (h : RH w0 W g bs Ab cb s Ao co) (hb : Below W.heap.size W W1) : RH w0 W1 g bs Ab cb s Ao co :=
  ⟨(hb.block g (lt_of_block h.1)).trans h.1, h.2.1, h.2.2.1, Kd.R_below h.2.2.2.1 hb, h.2.2.2.2.trans (hb.mono h.2.2.2.2.size)⟩
theorem RH.drawn (h : RH w0 W g bs Ab cb s Ao co) (hb : Drawn0 W W1) : RH w0 W1 g bs Ab cb s Ao co := by
  obtain ⟨n, rfl⟩ := hb
  exact h.below (pw_below_drewN (Below.refl _ _) n)
theorem RH.ne (h : RH w0 W g bs Ab cb s Ao co) : some g ≠ (Value.slice Ao s.out.length co).ownBlock := Kd.R_ne h.2.2.2.1 h.1 (by decide)
theorem RH.row (h : RH w0 W g bs Ab cb s Ao co) : Kd.C (Kd.int .u8) W Ab bs.length bs := Kd.C_below h.2.2.1 h.2.2.2.2
/-- Behind a store into a cell of the block that is no row. -/
theorem RH.set (h : RH w0 W g bs Ab cb s Ao co) (j : Nat) (u : Value) (s2 : Rd) (ho : s2.out = s.out)
    (hc : (#[.slice Ab bs.length cb, .int .i64 s.i, .int .i64 s.g0, .int .i64 s.g1, .int .i64 s.g2, .int .i64 s.g3, .int .i64 s.left, .int .i64 s.right, .slice Ao s.out.length co] : Array Value).setIfInBounds j u = (#[.slice Ab bs.length cb, .int .i64 s2.i, .int .i64 s2.g0, .int .i64 s2.g1, .int .i64 s2.g2, .int .i64 s2.g3, .int .i64 s2.left, .int .i64 s2.right, .slice Ao s2.out.length co] : Array Value)) : RH w0 (W.setCell ⟨g, j, none⟩ u) g bs Ab cb s2 Ao co :=
  ⟨by have := blk_set h.1 j u; rw [hc] at this; exact this, h.2.1, h.2.2.1, by rw [ho]; exact Kd.R_set h.2.2.2.1 h.1 (by decide) j u, h.2.2.2.2.setCell (p := ⟨g, j, none⟩) h.2.1 _⟩
theorem RH.stands {w1 : World} (h : RH w0 W g bs Ab cb s Ao co) (hg : W.grownBy w1 (Value.slice Ao s.out.length co).ownBlock) :
    w1.heap[g]? = some (.cells #[.slice Ab bs.length cb, .int .i64 s.i, .int .i64 s.g0, .int .i64 s.g1, .int .i64 s.g2, .int .i64 s.g3, .int .i64 s.left, .int .i64 s.right, .slice Ao s.out.length co] 71 (0, 0)) := (hg.block g (lt_of_block h.1) h.ne).trans h.1
theorem RH.stored {w1 : World} {ys : List S74} {A1 : Option Addr} {c1 : Nat} (h : RH w0 W g bs Ab cb s Ao co) (hg : W.grownBy w1 (Value.slice Ao s.out.length co).ownBlock)
    (hR : Kd.R k74 74 w1 w0.heap.size (fun _ => True) (.slice A1 ys.length c1) ys) (hB : Below w0.heap.size w0 w1) : RH w0 (w1.setCell ⟨g, 8, none⟩ (.slice A1 ys.length c1)) g bs Ab cb { s with out := ys } A1 c1 :=
  ⟨by simpa using blk_set (h.stands hg) 8 (.slice A1 ys.length c1), h.2.1, h.2.2.1, Kd.R_set hR (h.stands hg) (by decide) 8 _, hB.setCell (p := ⟨g, 8, none⟩) h.2.1 _⟩
theorem RH.cell0 (h : RH w0 W g bs Ab cb s Ao co) : W.cell? ⟨g, 0, none⟩ = some (.slice Ab bs.length cb) := (blk_cell h.1 0).trans rfl
theorem RH.cell1 (h : RH w0 W g bs Ab cb s Ao co) : W.cell? ⟨g, 1, none⟩ = some (.int .i64 s.i) := (blk_cell h.1 1).trans rfl
theorem RH.cell2 (h : RH w0 W g bs Ab cb s Ao co) : W.cell? ⟨g, 2, none⟩ = some (.int .i64 s.g0) := (blk_cell h.1 2).trans rfl
theorem RH.cell3 (h : RH w0 W g bs Ab cb s Ao co) : W.cell? ⟨g, 3, none⟩ = some (.int .i64 s.g1) := (blk_cell h.1 3).trans rfl
theorem RH.cell4 (h : RH w0 W g bs Ab cb s Ao co) : W.cell? ⟨g, 4, none⟩ = some (.int .i64 s.g2) := (blk_cell h.1 4).trans rfl
theorem RH.cell5 (h : RH w0 W g bs Ab cb s Ao co) : W.cell? ⟨g, 5, none⟩ = some (.int .i64 s.g3) := (blk_cell h.1 5).trans rfl
theorem RH.cell6 (h : RH w0 W g bs Ab cb s Ao co) : W.cell? ⟨g, 6, none⟩ = some (.int .i64 s.left) := (blk_cell h.1 6).trans rfl
theorem RH.cell7 (h : RH w0 W g bs Ab cb s Ao co) : W.cell? ⟨g, 7, none⟩ = some (.int .i64 s.right) := (blk_cell h.1 7).trans rfl
theorem RH.cell8 (h : RH w0 W g bs Ab cb s Ao co) : W.cell? ⟨g, 8, none⟩ = some (.slice Ao s.out.length co) := (blk_cell h.1 8).trans rfl
theorem RH.facts (h : RH w0 W g bs Ab cb s Ao co) : W.cell? ⟨g, 0, none⟩ = some (.slice Ab bs.length cb) ∧ W.cell? ⟨g, 1, none⟩ = some (.int .i64 s.i) ∧ W.cell? ⟨g, 2, none⟩ = some (.int .i64 s.g0) ∧ W.cell? ⟨g, 3, none⟩ = some (.int .i64 s.g1) ∧ W.cell? ⟨g, 4, none⟩ = some (.int .i64 s.g2) ∧ W.cell? ⟨g, 5, none⟩ = some (.int .i64 s.g3) ∧ W.cell? ⟨g, 6, none⟩ = some (.int .i64 s.left) ∧ W.cell? ⟨g, 7, none⟩ = some (.int .i64 s.right) ∧ W.cell? ⟨g, 8, none⟩ = some (.slice Ao s.out.length co) ∧ W.frozen? ⟨g, 1, none⟩ = false ∧ W.frozen? ⟨g, 2, none⟩ = false ∧ W.frozen? ⟨g, 3, none⟩ = false ∧ W.frozen? ⟨g, 4, none⟩ = false ∧ W.frozen? ⟨g, 5, none⟩ = false ∧ W.frozen? ⟨g, 6, none⟩ = false ∧ W.frozen? ⟨g, 7, none⟩ = false ∧ W.frozen? ⟨g, 8, none⟩ = false :=
  ⟨h.cell0, h.cell1, h.cell2, h.cell3, h.cell4, h.cell5, h.cell6, h.cell7, h.cell8, blk_frozen h.1 1, blk_frozen h.1 2, blk_frozen h.1 3, blk_frozen h.1 4, blk_frozen h.1 5, blk_frozen h.1 6, blk_frozen h.1 7, blk_frozen h.1 8⟩
end

/-! ### next -/
theorem rd_byte (bs : List Int) (hbs : ∀ x ∈ bs, 0 ≤ x ∧ x ≤ 255) (i : Int) (h0 : 0 ≤ i) (h1 : i < (bs.length : Int)) : 0 ≤ rd bs i ∧ rd bs i ≤ 255 := by
  obtain ⟨n, rfl⟩ : ∃ n : Nat, i = (n : Int) := ⟨i.toNat, by omega⟩
  rw [rd_at bs n (by omega)]
  exact hbs _ (List.getElem_mem _)
def nextS (bs : List Int) (s : Rd) : Int × Int × Rd := if s.i ≥ (bs.length : Int) then (0, 2, s) else (rd bs s.i, 0, { s with i := s.i + 1 })
set_option maxRecDepth 100000 in
set_option maxHeartbeats 2000000 in
theorem reader_next_end (bs : List Int) (Ab : Option Addr) (cb : Nat) (s : Rd) (Ao : Option Addr) (co g : Nat) (hend : s.i ≥ (bs.length : Int)) (hbs : ∀ x ∈ bs, 0 ≤ x ∧ x ≤ 255) (hlen : bs.length ≤ 100000) (hi : 0 ≤ s.i ∧ s.i ≤ (bs.length : Int)) (w0 w : World) (hH : RH w0 w g bs Ab cb s Ao co) :
    Calls Try.prog 48 #[.pointer (some ⟨g, 0, none⟩)] w fun e w' => e = .returned (.tuple #[.int .i64 0, .int .i64 2]) ∧ ∃ A' c', RH w0 w' g bs Ab cb s A' c' := by
  have HH := Aside0.mk hH
  obtain ⟨hc0, hc1, hc2, hc3, hc4, hc5, hc6, hc7, hc8, hf1, hf2, hf3, hf4, hf5, hf6, hf7, hf8⟩ := hH.facts
  clear hH
  have ht : decide ((bs.length : Int) ≤ s.i) = true := decide_eq_true hend
  clear hend
  go_enter Try.func48, Try.ntmps48
  go_wp2
  repeat (go_quiet (fail); try go_wp2)
  go_ret2
  exact ⟨rfl, Ao, co, HH.out.below (pw_below_drewN (Below.refl _ _) _)⟩
set_option maxRecDepth 100000 in
set_option maxHeartbeats 2000000 in
theorem reader_next_one (bs : List Int) (Ab : Option Addr) (cb : Nat) (s : Rd) (Ao : Option Addr) (co g : Nat) (hend : ¬ s.i ≥ (bs.length : Int)) (hbs : ∀ x ∈ bs, 0 ≤ x ∧ x ≤ 255) (hlen : bs.length ≤ 100000) (hi : 0 ≤ s.i ∧ s.i ≤ (bs.length : Int)) (w0 w : World) (hH : RH w0 w g bs Ab cb s Ao co) :
    Calls Try.prog 48 #[.pointer (some ⟨g, 0, none⟩)] w fun e w' => e = .returned (.tuple #[.int .i64 (rd bs s.i), .int .i64 0]) ∧ ∃ A' c', RH w0 w' g bs Ab cb { s with i := s.i + 1 } A' c' := by
  obtain ⟨ad, e, hx⟩ := Kd.at_int hH.row s.i hi.1 (by omega)
  subst e
  have hb : 0 ≤ rd bs s.i ∧ rd bs s.i ≤ 255 := rd_byte bs hbs s.i hi.1 (by omega)
  have hlt : s.i < (bs.length : Int) := by omega
  have HH := Aside0.mk hH
  obtain ⟨hc0, hc1, hc2, hc3, hc4, hc5, hc6, hc7, hc8, hf1, hf2, hf3, hf4, hf5, hf6, hf7, hf8⟩ := hH.facts
  clear hH
  clear hx
  have ht : decide ((bs.length : Int) ≤ s.i) = false := decide_eq_false hend
  clear hend
  go_enter Try.func48, Try.ntmps48
  go_wp2
  go_quiet (fail)
  rename_i nq
  go_upto_region 4 with fail
  have H2 := Aside0.mk ((HH.out.below (pw_below_drewN (Below.refl _ _) nq)).set 1 (.int .i64 (s.i + 1)) { s with i := s.i + 1 } rfl rfl)
  have HX2 : Aside0 (((w.drewN nq).setCell ⟨g, 1, none⟩ (.int .i64 (s.i + 1))).cell? (ad.add s.i.toNat) = some (.int .u8 (rd bs s.i))) := ⟨by obtain ⟨ad2, e2, h2⟩ := Kd.at_int H2.out.row s.i hi.1 hlt; cases e2; exact h2⟩
  obtain ⟨x, EX⟩ : ∃ x, Aside0 (rd bs s.i = x) := ⟨_, ⟨rfl⟩⟩
  rw [EX.out] at HX2 hb
  generalize (w.drewN nq).setCell ⟨g, 1, none⟩ (.int .i64 (s.i + 1)) = wa at *
  clear hc0 hc1 hc2 hc3 hc4 hc5 hc6 hc7 hc8 hf1 hf2 hf3 hf4 hf5 hf6 hf7 hf8
  obtain ⟨hc0, hc1, hc2, hc3, hc4, hc5, hc6, hc7, hc8, hf1, hf2, hf3, hf4, hf5, hf6, hf7, hf8⟩ := H2.out.facts
  have hx := HX2.out
  clear HH
  have hw1 : IntKind.i64.wrap (s.i + 1 - 1) = s.i := by rw [show s.i + 1 - 1 = s.i by omega]; exact IntWalk.i64_in _ ⟨by omega, by omega⟩
  have hw2 : IntKind.i64.wrap x = x := IntWalk.i64_in _ ⟨by omega, by omega⟩
  have p1 := eq_true hi.1
  have q1 : (s.i < (bs.length : Int)) = True := eq_true hlt
  have p2 : decide (0 ≤ s.i) = true := decide_eq_true hi.1
  have q2 : decide (s.i < (bs.length : Int)) = true := decide_eq_true hlt
  dsimp only at hc1 hc2 hc3 hc4 hc5 hc6 hc7 hc8
  go_quiet (fail)
  go_wp2
  go_ret2
  exact ⟨by rw [EX.out]; rfl, Ao, co, H2.out.below (pw_below_drewN (Below.refl _ _) _)⟩
theorem reader_next (bs : List Int) (Ab : Option Addr) (cb : Nat) (s : Rd) (Ao : Option Addr) (co g : Nat) (c e_ : Int) (s2 : Rd) (hn : nextS bs s = (c, e_, s2)) (hbs : ∀ x ∈ bs, 0 ≤ x ∧ x ≤ 255) (hlen : bs.length ≤ 100000) (hi : 0 ≤ s.i ∧ s.i ≤ (bs.length : Int)) (w0 w : World) (hH : RH w0 w g bs Ab cb s Ao co) :
    Calls Try.prog 48 #[.pointer (some ⟨g, 0, none⟩)] w fun e w' => e = .returned (.tuple #[.int .i64 c, .int .i64 e_]) ∧ ∃ A' c', RH w0 w' g bs Ab cb s2 A' c' := by
  unfold nextS at hn
  by_cases hend : s.i ≥ (bs.length : Int)
  · rw [if_pos hend] at hn
    simp only [Prod.mk.injEq] at hn
    obtain ⟨rfl, rfl, rfl⟩ := hn
    exact reader_next_end bs Ab cb s Ao co g hend hbs hlen hi w0 w hH
  · rw [if_neg hend] at hn
    simp only [Prod.mk.injEq] at hn
    obtain ⟨rfl, rfl, rfl⟩ := hn
    exact reader_next_one bs Ab cb s Ao co g hend hbs hlen hi w0 w hH
theorem nextS_i (bs : List Int) (s s2 : Rd) (c e : Int) (hn : nextS bs s = (c, e, s2)) (hi : 0 ≤ s.i ∧ s.i ≤ (bs.length : Int)) : 0 ≤ s2.i ∧ s2.i ≤ (bs.length : Int) := by
  unfold nextS at hn
  split at hn
  · simp only [Prod.mk.injEq] at hn
    obtain ⟨_, _, rfl⟩ := hn
    exact hi
  · simp only [Prod.mk.injEq] at hn
    obtain ⟨_, _, rfl⟩ := hn
    simp only
    omega

/-! ### place -/
def gAt (s : Rd) (gi : Int) : Int := if gi = 0 then s.g0 else if gi = 1 then s.g1 else if gi = 2 then s.g2 else s.g3
theorem RH.gcell {w0 W : World} {g : Nat} {bs : List Int} {Ab : Option Addr} {cb : Nat} {s : Rd} {Ao : Option Addr} {co : Nat} (h : RH w0 W g bs Ab cb s Ao co) (gi : Int) (h0 : 0 ≤ gi) (h3 : gi ≤ 3) : W.cell? ⟨g, 2 + gi.toNat, none⟩ = some (.int .i64 (gAt s gi)) := by
  have : gi = 0 ∨ gi = 1 ∨ gi = 2 ∨ gi = 3 := by omega
  rcases this with rfl | rfl | rfl | rfl
  · exact h.cell2
  · exact h.cell3
  · exact h.cell4
  · exact h.cell5
set_option maxRecDepth 100000 in
set_option maxHeartbeats 2000000 in
theorem reader_place_no (bs : List Int) (Ab : Option Addr) (cb : Nat) (s : Rd) (Ao : Option Addr) (co g : Nat) (gi c set n : Int) (right : Bool) (h0 : 0 ≤ gi) (h3 : gi ≤ 3) (hset : gAt s gi = set) (hS : shift_side.f c = some (right, n, false)) (hbs : ∀ x ∈ bs, 0 ≤ x ∧ x ≤ 255) (hlen : bs.length ≤ 100000) (hi : 0 ≤ s.i ∧ s.i ≤ (bs.length : Int)) (w0 w : World) (hH : RH w0 w g bs Ab cb s Ao co) :
    Calls Try.prog 51 #[.pointer (some ⟨g, 0, none⟩), .int .i64 gi, .int .i64 c] w fun e w' => e = .returned (.int .i64 11) ∧ ∃ A' c', RH w0 w' g bs Ab cb s A' c' := by
  have HS := Aside0.mk hS
  have p0 : decide (0 ≤ gi) = true := decide_eq_true h0
  have p1 : decide (gi < 4) = true := decide_eq_true (by omega)
  have HH := Aside0.mk hH
  obtain ⟨hc0, hc1, hc2, hc3, hc4, hc5, hc6, hc7, hc8, hf1, hf2, hf3, hf4, hf5, hf6, hf7, hf8⟩ := hH.facts
  clear hH
  clear hS
  go_enter Try.func51, Try.ntmps51
  go_wp2_with (first
    | (go_at_call 56; (with_reducible refine (shift_side.calls c right n false _ HS.out).mono ?_); rintro e w1 ⟨rfl, hd⟩; have H1 := Aside0.mk (HH.out.drawn hd); clear HH hd hc0 hc1 hc2 hc3 hc4 hc5 hc6 hc7 hc8 hf1 hf2 hf3 hf4 hf5 hf6 hf7 hf8; obtain ⟨hc0, hc1, hc2, hc3, hc4, hc5, hc6, hc7, hc8, hf1, hf2, hf3, hf4, hf5, hf6, hf7, hf8⟩ := H1.out.facts; have hcg : w1.cell? ⟨g, 2 + gi.toNat, none⟩ = some (.int .i64 set) := (by have := H1.out.gcell gi h0 h3; rw [hset] at this; exact this)))
  go_ret
  exact ⟨rfl, Ao, co, H1.out⟩
set_option maxRecDepth 100000 in
set_option maxHeartbeats 2000000 in
theorem reader_place_zero (bs : List Int) (Ab : Option Addr) (cb : Nat) (s : Rd) (Ao : Option Addr) (co g : Nat) (gi c set n : Int) (right : Bool) (h0 : 0 ≤ gi) (h3 : gi ≤ 3) (hset : gAt s gi = set) (hS : shift_side.f c = some (right, n, true)) (hz : set = 0) (hbs : ∀ x ∈ bs, 0 ≤ x ∧ x ≤ 255) (hlen : bs.length ≤ 100000) (hi : 0 ≤ s.i ∧ s.i ≤ (bs.length : Int)) (w0 w : World) (hH : RH w0 w g bs Ab cb s Ao co) :
    Calls Try.prog 51 #[.pointer (some ⟨g, 0, none⟩), .int .i64 gi, .int .i64 c] w fun e w' => e = .returned (.int .i64 12) ∧ ∃ A' c', RH w0 w' g bs Ab cb s A' c' := by
  subst hz
  have HS := Aside0.mk hS
  have p0 : decide (0 ≤ gi) = true := decide_eq_true h0
  have p1 : decide (gi < 4) = true := decide_eq_true (by omega)
  have HH := Aside0.mk hH
  obtain ⟨hc0, hc1, hc2, hc3, hc4, hc5, hc6, hc7, hc8, hf1, hf2, hf3, hf4, hf5, hf6, hf7, hf8⟩ := hH.facts
  clear hH
  clear hS
  go_enter Try.func51, Try.ntmps51
  go_wp2_with (first
    | (go_at_call 56; (with_reducible refine (shift_side.calls c right n true _ HS.out).mono ?_); rintro e w1 ⟨rfl, hd⟩; have H1 := Aside0.mk (HH.out.drawn hd); clear HH hd hc0 hc1 hc2 hc3 hc4 hc5 hc6 hc7 hc8 hf1 hf2 hf3 hf4 hf5 hf6 hf7 hf8; obtain ⟨hc0, hc1, hc2, hc3, hc4, hc5, hc6, hc7, hc8, hf1, hf2, hf3, hf4, hf5, hf6, hf7, hf8⟩ := H1.out.facts; have hcg : w1.cell? ⟨g, 2 + gi.toNat, none⟩ = some (.int .i64 0) := (by have := H1.out.gcell gi h0 h3; rw [hset] at this; exact this)))
  go_ret
  exact ⟨rfl, Ao, co, H1.out⟩
set_option maxRecDepth 100000 in
set_option maxHeartbeats 2000000 in
theorem reader_place_one (bs : List Int) (Ab : Option Addr) (cb : Nat) (s : Rd) (Ao : Option Addr) (co g : Nat) (gi c set n : Int) (right : Bool) (h0 : 0 ≤ gi) (h3 : gi ≤ 3) (hset : gAt s gi = set) (so : s.out.length ≤ 1000000) (hS : shift_side.f c = some (right, n, true)) (hz : set ≠ 0) (hw : set ≠ 87) (hbs : ∀ x ∈ bs, 0 ≤ x ∧ x ≤ 255) (hlen : bs.length ≤ 100000) (hi : 0 ≤ s.i ∧ s.i ≤ (bs.length : Int)) (w0 w : World) (hH : RH w0 w g bs Ab cb s Ao co) :
    Calls Try.prog 51 #[.pointer (some ⟨g, 0, none⟩), .int .i64 gi, .int .i64 c] w fun e w' => e = .returned (.int .i64 0) ∧ ∃ A' c', RH w0 w' g bs Ab cb { s with out := s.out ++ [⟨set, n⟩] } A' c' := by
  have z1 : (set == 0) = false := by simp [hz]
  have z2 : (set == 87) = false := by simp [hw]
  clear hz hw
  have HS := Aside0.mk hS
  have p0 : decide (0 ≤ gi) = true := decide_eq_true h0
  have p1 : decide (gi < 4) = true := decide_eq_true (by omega)
  have HH := Aside0.mk hH
  obtain ⟨hc0, hc1, hc2, hc3, hc4, hc5, hc6, hc7, hc8, hf1, hf2, hf3, hf4, hf5, hf6, hf7, hf8⟩ := hH.facts
  clear hH
  clear hS
  go_enter Try.func51, Try.ntmps51
  go_wp2_with (first
    | (go_at_call 56; (with_reducible refine (shift_side.calls c right n true _ HS.out).mono ?_); rintro e w1 ⟨rfl, hd⟩; have H1 := Aside0.mk (HH.out.drawn hd); clear HH hd hc0 hc1 hc2 hc3 hc4 hc5 hc6 hc7 hc8 hf1 hf2 hf3 hf4 hf5 hf6 hf7 hf8; obtain ⟨hc0, hc1, hc2, hc3, hc4, hc5, hc6, hc7, hc8, hf1, hf2, hf3, hf4, hf5, hf6, hf7, hf8⟩ := H1.out.facts; have hcg : w1.cell? ⟨g, 2 + gi.toNat, none⟩ = some (.int .i64 set) := (by have := H1.out.gcell gi h0 h3; rw [hset] at this; exact this))
    | (go_at_call 18; (with_reducible refine (csets_Wide.calls set false _ (by rw [csets_Wide.f, z2])).mono ?_); rintro e w2 ⟨rfl, hd⟩; have H2 := Aside0.mk (H1.out.drawn hd); clear H1 hcg hd hc0 hc1 hc2 hc3 hc4 hc5 hc6 hc7 hc8 hf1 hf2 hf3 hf4 hf5 hf6 hf7 hf8; obtain ⟨hc0, hc1, hc2, hc3, hc4, hc5, hc6, hc7, hc8, hf1, hf2, hf3, hf4, hf5, hf6, hf7, hf8⟩ := H2.out.facts)
    | (at_builtin; refine Kd.R_append k74 (w0 := w0) w0.heap.size rfl (.tmp 65) (.tmp 69) 55 74 (.agg #[(.int .i64 0), (.int .i64 0)]) 16 rfl Try.underlying55 infoTok rfl (by decide) (by omega) _ s.out (⟨set, n⟩ : S74) [.int .i64 (set), .int .i64 (n)] (fun _ => True) (fun _ => False) rfl rfl ?aP3 (fun _ hk => hk.elim) ?aF3 ?aO3 ?aB3 ?aS3 ?aL3 ?_))
  case aP3 => exact k74_mkM _ _ _ (⟨set, n⟩ : S74)
  first | (case aF3 => exact fun _ _ => trivial) | skip
  case aO3 => exact H2.out.2.2.2.1
  case aB3 => exact H2.out.2.2.2.2
  case aS3 => exact H2.out.2.2.2.2.size
  case aL3 => omega
  intro v3 w3 hR3 hBB3 hg3 hat3
  obtain ⟨A3, c3, ev3⟩ := Kd.R_slice hR3
  subst ev3
  have hblk3 := H2.out.stands hg3
  have H3 := Aside0.mk (H2.out.stored hg3 hR3 hBB3)
  clear hR3 hBB3 hg3 hat3
  clear hc0 hc1 hc2 hc3 hc4 hc5 hc6 hc7 hc8 hf1 hf2 hf3 hf4 hf5 hf6 hf7 hf8
  obtain ⟨zs3, HZ3⟩ : ∃ zs3, Aside0 (s.out ++ [(⟨set, n⟩ : S74)] = zs3) := ⟨_, ⟨rfl⟩⟩
  rw [HZ3.out] at H3
  try rw [HZ3.out]
  have hf8 := blk_frozen hblk3 8
  have hc8 : w3.cell? ⟨g, 8, none⟩ = some (.slice Ao s.out.length co) := (blk_cell hblk3 8).trans rfl
  clear hblk3
  go_wp2
  go_ret
  exact ⟨rfl, A3, c3, by rw [HZ3.out]; exact H3.out⟩
set_option maxRecDepth 100000 in
set_option maxHeartbeats 2000000 in
theorem reader_place_short (bs : List Int) (Ab : Option Addr) (cb : Nat) (s : Rd) (Ao : Option Addr) (co g : Nat) (gi c n d e1 : Int) (s1 : Rd) (right : Bool) (h0 : 0 ≤ gi) (h3 : gi ≤ 3) (hset : gAt s gi = 87) (hS : shift_side.f c = some (right, n, true)) (hN : nextS bs s = (d, e1, s1)) (he : e1 ≠ 0) (hbs : ∀ x ∈ bs, 0 ≤ x ∧ x ≤ 255) (hlen : bs.length ≤ 100000) (hi : 0 ≤ s.i ∧ s.i ≤ (bs.length : Int)) (w0 w : World) (hH : RH w0 w g bs Ab cb s Ao co) :
    Calls Try.prog 51 #[.pointer (some ⟨g, 0, none⟩), .int .i64 gi, .int .i64 c] w fun e w' => e = .returned (.int .i64 e1) ∧ ∃ A' c', RH w0 w' g bs Ab cb s1 A' c' := by
  have z1 : (e1 != 0) = true := by simp [he]
  have HN := Aside0.mk hN
  clear he hN
  have HS := Aside0.mk hS
  have p0 : decide (0 ≤ gi) = true := decide_eq_true h0
  have p1 : decide (gi < 4) = true := decide_eq_true (by omega)
  have HH := Aside0.mk hH
  obtain ⟨hc0, hc1, hc2, hc3, hc4, hc5, hc6, hc7, hc8, hf1, hf2, hf3, hf4, hf5, hf6, hf7, hf8⟩ := hH.facts
  clear hH
  clear hS
  go_enter Try.func51, Try.ntmps51
  go_wp2_with (first
    | (go_at_call 56; (with_reducible refine (shift_side.calls c right n true _ HS.out).mono ?_); rintro e w1 ⟨rfl, hd⟩; have H1 := Aside0.mk (HH.out.drawn hd); clear HH hd hc0 hc1 hc2 hc3 hc4 hc5 hc6 hc7 hc8 hf1 hf2 hf3 hf4 hf5 hf6 hf7 hf8; obtain ⟨hc0, hc1, hc2, hc3, hc4, hc5, hc6, hc7, hc8, hf1, hf2, hf3, hf4, hf5, hf6, hf7, hf8⟩ := H1.out.facts; have hcg : w1.cell? ⟨g, 2 + gi.toNat, none⟩ = some (.int .i64 87) := (by have := H1.out.gcell gi h0 h3; rw [hset] at this; exact this))
    | (go_at_call 18; (with_reducible refine (csets_Wide.calls 87 true _ (rfl)).mono ?_); rintro e w2 ⟨rfl, hd⟩; have H2 := Aside0.mk (H1.out.drawn hd); clear H1 hcg hd hc0 hc1 hc2 hc3 hc4 hc5 hc6 hc7 hc8 hf1 hf2 hf3 hf4 hf5 hf6 hf7 hf8; obtain ⟨hc0, hc1, hc2, hc3, hc4, hc5, hc6, hc7, hc8, hf1, hf2, hf3, hf4, hf5, hf6, hf7, hf8⟩ := H2.out.facts)
    | (go_at_call 48; (with_reducible refine (reader_next bs Ab cb s Ao co g d e1 s1 HN.out hbs hlen hi w0 _ H2.out).mono ?_); rintro e w3 ⟨rfl, Ao3, co3, hn3⟩; have H3 := Aside0.mk hn3; clear hn3 H2 hc0 hc1 hc2 hc3 hc4 hc5 hc6 hc7 hc8 hf1 hf2 hf3 hf4 hf5 hf6 hf7 hf8; obtain ⟨hc0, hc1, hc2, hc3, hc4, hc5, hc6, hc7, hc8, hf1, hf2, hf3, hf4, hf5, hf6, hf7, hf8⟩ := H3.out.facts))
  go_ret
  exact ⟨rfl, Ao3, co3, H3.out⟩
set_option maxRecDepth 100000 in
set_option maxHeartbeats 2000000 in
theorem reader_place_bad (bs : List Int) (Ab : Option Addr) (cb : Nat) (s : Rd) (Ao : Option Addr) (co g : Nat) (gi c n d : Int) (s1 : Rd) (right : Bool) (h0 : 0 ≤ gi) (h3 : gi ≤ 3) (hset : gAt s gi = 87) (m : Int) (also is2 : Bool) (hS : shift_side.f c = some (right, n, true)) (hN : nextS bs s = (d, 0, s1)) (hS2 : shift_side.f d = some (also, m, is2)) (hw : is2 = false ∨ also ≠ right) (hbs : ∀ x ∈ bs, 0 ≤ x ∧ x ≤ 255) (hlen : bs.length ≤ 100000) (hi : 0 ≤ s.i ∧ s.i ≤ (bs.length : Int)) (w0 w : World) (hH : RH w0 w g bs Ab cb s Ao co) :
    Calls Try.prog 51 #[.pointer (some ⟨g, 0, none⟩), .int .i64 gi, .int .i64 c] w fun e w' => e = .returned (.int .i64 11) ∧ ∃ A' c', RH w0 w' g bs Ab cb s1 A' c' := by
  have HN := Aside0.mk hN
  have HS2 := Aside0.mk hS2
  clear hN hS2
  have HS := Aside0.mk hS
  have p0 : decide (0 ≤ gi) = true := decide_eq_true h0
  have p1 : decide (gi < 4) = true := decide_eq_true (by omega)
  have HH := Aside0.mk hH
  obtain ⟨hc0, hc1, hc2, hc3, hc4, hc5, hc6, hc7, hc8, hf1, hf2, hf3, hf4, hf5, hf6, hf7, hf8⟩ := hH.facts
  clear hH
  clear hS
  cases is2 with
  | false =>
    clear hw
    go_enter Try.func51, Try.ntmps51
    go_wp2_with (first
      | (go_at_call 56; (with_reducible refine (shift_side.calls c right n true _ HS.out).mono ?_); rintro e w1 ⟨rfl, hd⟩; have H1 := Aside0.mk (HH.out.drawn hd); clear HH hd hc0 hc1 hc2 hc3 hc4 hc5 hc6 hc7 hc8 hf1 hf2 hf3 hf4 hf5 hf6 hf7 hf8; obtain ⟨hc0, hc1, hc2, hc3, hc4, hc5, hc6, hc7, hc8, hf1, hf2, hf3, hf4, hf5, hf6, hf7, hf8⟩ := H1.out.facts; have hcg : w1.cell? ⟨g, 2 + gi.toNat, none⟩ = some (.int .i64 87) := (by have := H1.out.gcell gi h0 h3; rw [hset] at this; exact this))
      | (go_at_call 18; (with_reducible refine (csets_Wide.calls 87 true _ (rfl)).mono ?_); rintro e w2 ⟨rfl, hd⟩; have H2 := Aside0.mk (H1.out.drawn hd); clear H1 hcg hd hc0 hc1 hc2 hc3 hc4 hc5 hc6 hc7 hc8 hf1 hf2 hf3 hf4 hf5 hf6 hf7 hf8; obtain ⟨hc0, hc1, hc2, hc3, hc4, hc5, hc6, hc7, hc8, hf1, hf2, hf3, hf4, hf5, hf6, hf7, hf8⟩ := H2.out.facts)
      | (go_at_call 48; (with_reducible refine (reader_next bs Ab cb s Ao co g d 0 s1 HN.out hbs hlen hi w0 _ H2.out).mono ?_); rintro e w3 ⟨rfl, Ao3, co3, hn3⟩; have H3 := Aside0.mk hn3; clear hn3 H2 hc0 hc1 hc2 hc3 hc4 hc5 hc6 hc7 hc8 hf1 hf2 hf3 hf4 hf5 hf6 hf7 hf8; obtain ⟨hc0, hc1, hc2, hc3, hc4, hc5, hc6, hc7, hc8, hf1, hf2, hf3, hf4, hf5, hf6, hf7, hf8⟩ := H3.out.facts)
      | (go_at_call 56; (with_reducible refine (shift_side.calls d also m false _ HS2.out).mono ?_); rintro e w4 ⟨rfl, hd⟩; have H4 := Aside0.mk (H3.out.drawn hd); clear H3 hd hc0 hc1 hc2 hc3 hc4 hc5 hc6 hc7 hc8 hf1 hf2 hf3 hf4 hf5 hf6 hf7 hf8; obtain ⟨hc0, hc1, hc2, hc3, hc4, hc5, hc6, hc7, hc8, hf1, hf2, hf3, hf4, hf5, hf6, hf7, hf8⟩ := H4.out.facts))
    go_ret
    exact ⟨rfl, Ao3, co3, H4.out⟩
  | true =>
    have hw2 : also ≠ right := by simpa using hw
    clear hw
    cases also <;> cases right
    · exact absurd rfl hw2
    · clear hw2
      go_enter Try.func51, Try.ntmps51
      go_wp2_with (first
        | (go_at_call 56; (with_reducible refine (shift_side.calls c true n true _ HS.out).mono ?_); rintro e w1 ⟨rfl, hd⟩; have H1 := Aside0.mk (HH.out.drawn hd); clear HH hd hc0 hc1 hc2 hc3 hc4 hc5 hc6 hc7 hc8 hf1 hf2 hf3 hf4 hf5 hf6 hf7 hf8; obtain ⟨hc0, hc1, hc2, hc3, hc4, hc5, hc6, hc7, hc8, hf1, hf2, hf3, hf4, hf5, hf6, hf7, hf8⟩ := H1.out.facts; have hcg : w1.cell? ⟨g, 2 + gi.toNat, none⟩ = some (.int .i64 87) := (by have := H1.out.gcell gi h0 h3; rw [hset] at this; exact this))
        | (go_at_call 18; (with_reducible refine (csets_Wide.calls 87 true _ (rfl)).mono ?_); rintro e w2 ⟨rfl, hd⟩; have H2 := Aside0.mk (H1.out.drawn hd); clear H1 hcg hd hc0 hc1 hc2 hc3 hc4 hc5 hc6 hc7 hc8 hf1 hf2 hf3 hf4 hf5 hf6 hf7 hf8; obtain ⟨hc0, hc1, hc2, hc3, hc4, hc5, hc6, hc7, hc8, hf1, hf2, hf3, hf4, hf5, hf6, hf7, hf8⟩ := H2.out.facts)
        | (go_at_call 48; (with_reducible refine (reader_next bs Ab cb s Ao co g d 0 s1 HN.out hbs hlen hi w0 _ H2.out).mono ?_); rintro e w3 ⟨rfl, Ao3, co3, hn3⟩; have H3 := Aside0.mk hn3; clear hn3 H2 hc0 hc1 hc2 hc3 hc4 hc5 hc6 hc7 hc8 hf1 hf2 hf3 hf4 hf5 hf6 hf7 hf8; obtain ⟨hc0, hc1, hc2, hc3, hc4, hc5, hc6, hc7, hc8, hf1, hf2, hf3, hf4, hf5, hf6, hf7, hf8⟩ := H3.out.facts)
        | (go_at_call 56; (with_reducible refine (shift_side.calls d false m true _ HS2.out).mono ?_); rintro e w4 ⟨rfl, hd⟩; have H4 := Aside0.mk (H3.out.drawn hd); clear H3 hd hc0 hc1 hc2 hc3 hc4 hc5 hc6 hc7 hc8 hf1 hf2 hf3 hf4 hf5 hf6 hf7 hf8; obtain ⟨hc0, hc1, hc2, hc3, hc4, hc5, hc6, hc7, hc8, hf1, hf2, hf3, hf4, hf5, hf6, hf7, hf8⟩ := H4.out.facts))
      go_ret
      exact ⟨rfl, Ao3, co3, H4.out⟩
    · clear hw2
      go_enter Try.func51, Try.ntmps51
      go_wp2_with (first
        | (go_at_call 56; (with_reducible refine (shift_side.calls c false n true _ HS.out).mono ?_); rintro e w1 ⟨rfl, hd⟩; have H1 := Aside0.mk (HH.out.drawn hd); clear HH hd hc0 hc1 hc2 hc3 hc4 hc5 hc6 hc7 hc8 hf1 hf2 hf3 hf4 hf5 hf6 hf7 hf8; obtain ⟨hc0, hc1, hc2, hc3, hc4, hc5, hc6, hc7, hc8, hf1, hf2, hf3, hf4, hf5, hf6, hf7, hf8⟩ := H1.out.facts; have hcg : w1.cell? ⟨g, 2 + gi.toNat, none⟩ = some (.int .i64 87) := (by have := H1.out.gcell gi h0 h3; rw [hset] at this; exact this))
        | (go_at_call 18; (with_reducible refine (csets_Wide.calls 87 true _ (rfl)).mono ?_); rintro e w2 ⟨rfl, hd⟩; have H2 := Aside0.mk (H1.out.drawn hd); clear H1 hcg hd hc0 hc1 hc2 hc3 hc4 hc5 hc6 hc7 hc8 hf1 hf2 hf3 hf4 hf5 hf6 hf7 hf8; obtain ⟨hc0, hc1, hc2, hc3, hc4, hc5, hc6, hc7, hc8, hf1, hf2, hf3, hf4, hf5, hf6, hf7, hf8⟩ := H2.out.facts)
        | (go_at_call 48; (with_reducible refine (reader_next bs Ab cb s Ao co g d 0 s1 HN.out hbs hlen hi w0 _ H2.out).mono ?_); rintro e w3 ⟨rfl, Ao3, co3, hn3⟩; have H3 := Aside0.mk hn3; clear hn3 H2 hc0 hc1 hc2 hc3 hc4 hc5 hc6 hc7 hc8 hf1 hf2 hf3 hf4 hf5 hf6 hf7 hf8; obtain ⟨hc0, hc1, hc2, hc3, hc4, hc5, hc6, hc7, hc8, hf1, hf2, hf3, hf4, hf5, hf6, hf7, hf8⟩ := H3.out.facts)
        | (go_at_call 56; (with_reducible refine (shift_side.calls d true m true _ HS2.out).mono ?_); rintro e w4 ⟨rfl, hd⟩; have H4 := Aside0.mk (H3.out.drawn hd); clear H3 hd hc0 hc1 hc2 hc3 hc4 hc5 hc6 hc7 hc8 hf1 hf2 hf3 hf4 hf5 hf6 hf7 hf8; obtain ⟨hc0, hc1, hc2, hc3, hc4, hc5, hc6, hc7, hc8, hf1, hf2, hf3, hf4, hf5, hf6, hf7, hf8⟩ := H4.out.facts))
      go_ret
      exact ⟨rfl, Ao3, co3, H4.out⟩
    · exact absurd rfl hw2
set_option maxRecDepth 100000 in
set_option maxHeartbeats 2000000 in
theorem reader_place_two (bs : List Int) (Ab : Option Addr) (cb : Nat) (s : Rd) (Ao : Option Addr) (co g : Nat) (gi c n d : Int) (s1 : Rd) (right : Bool) (h0 : 0 ≤ gi) (h3 : gi ≤ 3) (hset : gAt s gi = 87) (so : s1.out.length ≤ 1000000) (m : Int) (hn : 0 ≤ n ∧ n ≤ 255) (hm : 0 ≤ m ∧ m ≤ 255) (hS : shift_side.f c = some (right, n, true)) (hN : nextS bs s = (d, 0, s1)) (hS2 : shift_side.f d = some (right, m, true)) (hbs : ∀ x ∈ bs, 0 ≤ x ∧ x ≤ 255) (hlen : bs.length ≤ 100000) (hi : 0 ≤ s.i ∧ s.i ≤ (bs.length : Int)) (w0 w : World) (hH : RH w0 w g bs Ab cb s Ao co) :
    Calls Try.prog 51 #[.pointer (some ⟨g, 0, none⟩), .int .i64 gi, .int .i64 c] w fun e w' => e = .returned (.int .i64 0) ∧ ∃ A' c', RH w0 w' g bs Ab cb { s1 with out := s1.out ++ [⟨87, Go.bits .or .i64 (n * 256) m⟩] } A' c' := by
  have HN := Aside0.mk hN
  have HS2 := Aside0.mk hS2
  clear hN hS2
  have HS := Aside0.mk hS
  have p0 : decide (0 ≤ gi) = true := decide_eq_true h0
  have p1 : decide (gi < 4) = true := decide_eq_true (by omega)
  have HH := Aside0.mk hH
  obtain ⟨hc0, hc1, hc2, hc3, hc4, hc5, hc6, hc7, hc8, hf1, hf2, hf3, hf4, hf5, hf6, hf7, hf8⟩ := hH.facts
  clear hH
  clear hS
  cases right
  · go_enter Try.func51, Try.ntmps51
    go_wp2_with (first
      | (go_at_call 56; (with_reducible refine (shift_side.calls c false n true _ HS.out).mono ?_); rintro e w1 ⟨rfl, hd⟩; have H1 := Aside0.mk (HH.out.drawn hd); clear HH hd hc0 hc1 hc2 hc3 hc4 hc5 hc6 hc7 hc8 hf1 hf2 hf3 hf4 hf5 hf6 hf7 hf8; obtain ⟨hc0, hc1, hc2, hc3, hc4, hc5, hc6, hc7, hc8, hf1, hf2, hf3, hf4, hf5, hf6, hf7, hf8⟩ := H1.out.facts; have hcg : w1.cell? ⟨g, 2 + gi.toNat, none⟩ = some (.int .i64 87) := (by have := H1.out.gcell gi h0 h3; rw [hset] at this; exact this))
      | (go_at_call 18; (with_reducible refine (csets_Wide.calls 87 true _ (rfl)).mono ?_); rintro e w2 ⟨rfl, hd⟩; have H2 := Aside0.mk (H1.out.drawn hd); clear H1 hcg hd hc0 hc1 hc2 hc3 hc4 hc5 hc6 hc7 hc8 hf1 hf2 hf3 hf4 hf5 hf6 hf7 hf8; obtain ⟨hc0, hc1, hc2, hc3, hc4, hc5, hc6, hc7, hc8, hf1, hf2, hf3, hf4, hf5, hf6, hf7, hf8⟩ := H2.out.facts)
      | (go_at_call 48; (with_reducible refine (reader_next bs Ab cb s Ao co g d 0 s1 HN.out hbs hlen hi w0 _ H2.out).mono ?_); rintro e w3 ⟨rfl, Ao3, co3, hn3⟩; have H3 := Aside0.mk hn3; clear hn3 H2 hc0 hc1 hc2 hc3 hc4 hc5 hc6 hc7 hc8 hf1 hf2 hf3 hf4 hf5 hf6 hf7 hf8; obtain ⟨hc0, hc1, hc2, hc3, hc4, hc5, hc6, hc7, hc8, hf1, hf2, hf3, hf4, hf5, hf6, hf7, hf8⟩ := H3.out.facts)
      | (go_at_call 56; (with_reducible refine (shift_side.calls d false m true _ HS2.out).mono ?_); rintro e w4 ⟨rfl, hd⟩; have H4 := Aside0.mk (H3.out.drawn hd); clear H3 hd hc0 hc1 hc2 hc3 hc4 hc5 hc6 hc7 hc8 hf1 hf2 hf3 hf4 hf5 hf6 hf7 hf8; obtain ⟨hc0, hc1, hc2, hc3, hc4, hc5, hc6, hc7, hc8, hf1, hf2, hf3, hf4, hf5, hf6, hf7, hf8⟩ := H4.out.facts)
      | (at_builtin; refine Kd.R_append k74 (w0 := w0) w0.heap.size rfl (.tmp 65) (.tmp 69) 55 74 (.agg #[(.int .i64 0), (.int .i64 0)]) 16 rfl Try.underlying55 infoTok rfl (by decide) (by omega) _ s1.out (⟨87, Go.bits .or .i64 (n * 256) m⟩ : S74) [.int .i64 (87), .int .i64 (Go.bits .or .i64 (n * 256) m)] (fun _ => True) (fun _ => False) rfl rfl ?aP5 (fun _ hk => hk.elim) ?aF5 ?aO5 ?aB5 ?aS5 ?aL5 ?_))
    case aP5 => exact k74_mkM _ _ _ (⟨87, Go.bits .or .i64 (n * 256) m⟩ : S74)
    first | (case aF5 => exact fun _ _ => trivial) | skip
    case aO5 => exact H4.out.2.2.2.1
    case aB5 => exact H4.out.2.2.2.2
    case aS5 => exact H4.out.2.2.2.2.size
    case aL5 => omega
    intro v5 w5 hR5 hBB5 hg5 hat5
    obtain ⟨A5, c5, ev5⟩ := Kd.R_slice hR5
    subst ev5
    have hblk5 := H4.out.stands hg5
    have H5 := Aside0.mk (H4.out.stored hg5 hR5 hBB5)
    clear hR5 hBB5 hg5 hat5
    clear hc0 hc1 hc2 hc3 hc4 hc5 hc6 hc7 hc8 hf1 hf2 hf3 hf4 hf5 hf6 hf7 hf8
    obtain ⟨zs5, HZ5⟩ : ∃ zs5, Aside0 (s1.out ++ [(⟨87, Go.bits .or .i64 (n * 256) m⟩ : S74)] = zs5) := ⟨_, ⟨rfl⟩⟩
    rw [HZ5.out] at H5
    try rw [HZ5.out]
    have hf8 := blk_frozen hblk5 8
    have hc8 : w5.cell? ⟨g, 8, none⟩ = some (.slice Ao3 s1.out.length co3) := (blk_cell hblk5 8).trans rfl
    clear hblk5
    go_wp2
    go_ret
    exact ⟨rfl, A5, c5, by rw [HZ5.out]; exact H5.out⟩
  · go_enter Try.func51, Try.ntmps51
    go_wp2_with (first
      | (go_at_call 56; (with_reducible refine (shift_side.calls c true n true _ HS.out).mono ?_); rintro e w1 ⟨rfl, hd⟩; have H1 := Aside0.mk (HH.out.drawn hd); clear HH hd hc0 hc1 hc2 hc3 hc4 hc5 hc6 hc7 hc8 hf1 hf2 hf3 hf4 hf5 hf6 hf7 hf8; obtain ⟨hc0, hc1, hc2, hc3, hc4, hc5, hc6, hc7, hc8, hf1, hf2, hf3, hf4, hf5, hf6, hf7, hf8⟩ := H1.out.facts; have hcg : w1.cell? ⟨g, 2 + gi.toNat, none⟩ = some (.int .i64 87) := (by have := H1.out.gcell gi h0 h3; rw [hset] at this; exact this))
      | (go_at_call 18; (with_reducible refine (csets_Wide.calls 87 true _ (rfl)).mono ?_); rintro e w2 ⟨rfl, hd⟩; have H2 := Aside0.mk (H1.out.drawn hd); clear H1 hcg hd hc0 hc1 hc2 hc3 hc4 hc5 hc6 hc7 hc8 hf1 hf2 hf3 hf4 hf5 hf6 hf7 hf8; obtain ⟨hc0, hc1, hc2, hc3, hc4, hc5, hc6, hc7, hc8, hf1, hf2, hf3, hf4, hf5, hf6, hf7, hf8⟩ := H2.out.facts)
      | (go_at_call 48; (with_reducible refine (reader_next bs Ab cb s Ao co g d 0 s1 HN.out hbs hlen hi w0 _ H2.out).mono ?_); rintro e w3 ⟨rfl, Ao3, co3, hn3⟩; have H3 := Aside0.mk hn3; clear hn3 H2 hc0 hc1 hc2 hc3 hc4 hc5 hc6 hc7 hc8 hf1 hf2 hf3 hf4 hf5 hf6 hf7 hf8; obtain ⟨hc0, hc1, hc2, hc3, hc4, hc5, hc6, hc7, hc8, hf1, hf2, hf3, hf4, hf5, hf6, hf7, hf8⟩ := H3.out.facts)
      | (go_at_call 56; (with_reducible refine (shift_side.calls d true m true _ HS2.out).mono ?_); rintro e w4 ⟨rfl, hd⟩; have H4 := Aside0.mk (H3.out.drawn hd); clear H3 hd hc0 hc1 hc2 hc3 hc4 hc5 hc6 hc7 hc8 hf1 hf2 hf3 hf4 hf5 hf6 hf7 hf8; obtain ⟨hc0, hc1, hc2, hc3, hc4, hc5, hc6, hc7, hc8, hf1, hf2, hf3, hf4, hf5, hf6, hf7, hf8⟩ := H4.out.facts)
      | (at_builtin; refine Kd.R_append k74 (w0 := w0) w0.heap.size rfl (.tmp 65) (.tmp 69) 55 74 (.agg #[(.int .i64 0), (.int .i64 0)]) 16 rfl Try.underlying55 infoTok rfl (by decide) (by omega) _ s1.out (⟨87, Go.bits .or .i64 (n * 256) m⟩ : S74) [.int .i64 (87), .int .i64 (Go.bits .or .i64 (n * 256) m)] (fun _ => True) (fun _ => False) rfl rfl ?aP6 (fun _ hk => hk.elim) ?aF6 ?aO6 ?aB6 ?aS6 ?aL6 ?_))
    case aP6 => exact k74_mkM _ _ _ (⟨87, Go.bits .or .i64 (n * 256) m⟩ : S74)
    first | (case aF6 => exact fun _ _ => trivial) | skip
    case aO6 => exact H4.out.2.2.2.1
    case aB6 => exact H4.out.2.2.2.2
    case aS6 => exact H4.out.2.2.2.2.size
    case aL6 => omega
    intro v6 w6 hR6 hBB6 hg6 hat6
    obtain ⟨A6, c6, ev6⟩ := Kd.R_slice hR6
    subst ev6
    have hblk6 := H4.out.stands hg6
    have H6 := Aside0.mk (H4.out.stored hg6 hR6 hBB6)
    clear hR6 hBB6 hg6 hat6
    clear hc0 hc1 hc2 hc3 hc4 hc5 hc6 hc7 hc8 hf1 hf2 hf3 hf4 hf5 hf6 hf7 hf8
    obtain ⟨zs6, HZ6⟩ : ∃ zs6, Aside0 (s1.out ++ [(⟨87, Go.bits .or .i64 (n * 256) m⟩ : S74)] = zs6) := ⟨_, ⟨rfl⟩⟩
    rw [HZ6.out] at H6
    try rw [HZ6.out]
    have hf8 := blk_frozen hblk6 8
    have hc8 : w6.cell? ⟨g, 8, none⟩ = some (.slice Ao3 s1.out.length co3) := (blk_cell hblk6 8).trans rfl
    clear hblk6
    go_wp2
    go_ret
    exact ⟨rfl, A6, c6, by rw [HZ6.out]; exact H6.out⟩

def sideS (c : Int) : Bool × Int × Bool := (decide (c ≥ 128), Go.bits .andNot .i64 c 128, if (Go.bits .andNot .i64 c 128) ≥ 33 then decide ((Go.bits .andNot .i64 c 128) ≤ 126) else false)
theorem Side_f (c : Int) : shift_side.f c = some (sideS c) := by
  unfold shift_side.f sideS
  split <;> rfl
theorem sideS_n (c : Int) (h : (sideS c).2.2 = true) : 33 ≤ (sideS c).2.1 ∧ (sideS c).2.1 ≤ 126 := by
  unfold sideS at h ⊢
  simp only at h ⊢
  split at h
  · rename_i h1
    exact ⟨h1, of_decide_eq_true h⟩
  · cases h
def placeS (bs : List Int) (s : Rd) (gi c : Int) : Int × Rd :=
  if (sideS c).2.2 = true then
    (if gAt s gi = 0 then (12, s)
    else if gAt s gi = 87 then
      (if (nextS bs s).2.1 = 0 then
        (if (sideS (nextS bs s).1).2.2 = true ∧ (sideS (nextS bs s).1).1 = (sideS c).1 then (0, { (nextS bs s).2.2 with out := (nextS bs s).2.2.out ++ [⟨87, Go.bits .or .i64 ((sideS c).2.1 * 256) (sideS (nextS bs s).1).2.1⟩] })
        else (11, (nextS bs s).2.2))
      else ((nextS bs s).2.1, (nextS bs s).2.2))
    else (0, { s with out := s.out ++ [⟨gAt s gi, (sideS c).2.1⟩] }))
  else (11, s)
/-- What holds of a reader at all times. -/
def RdOk (bs : List Int) (s : Rd) : Prop := 0 ≤ s.i ∧ s.i ≤ (bs.length : Int) ∧ (s.out.length : Int) ≤ s.i ∧ 0 ≤ s.left ∧ s.left ≤ 3 ∧ 0 ≤ s.right ∧ s.right ≤ 3
theorem RdOk.room {bs : List Int} {s : Rd} (h : RdOk bs s) (hl : bs.length ≤ 100000) : s.out.length ≤ 1000000 := by
  obtain ⟨h1, h2, h3, _⟩ := h
  omega
theorem RdOk.at_i {bs : List Int} {s : Rd} (h : RdOk bs s) : 0 ≤ s.i ∧ s.i ≤ (bs.length : Int) := ⟨h.1, h.2.1⟩
theorem RdOk.left {bs : List Int} {s : Rd} (h : RdOk bs s) : 0 ≤ s.left ∧ s.left ≤ 3 := ⟨h.2.2.2.1, h.2.2.2.2.1⟩
theorem RdOk.right {bs : List Int} {s : Rd} (h : RdOk bs s) : 0 ≤ s.right ∧ s.right ≤ 3 := ⟨h.2.2.2.2.2.1, h.2.2.2.2.2.2⟩
theorem nextS_ok {bs : List Int} {s : Rd} (h : RdOk bs s) : RdOk bs (nextS bs s).2.2 := by
  unfold nextS
  split
  · exact h
  · obtain ⟨h1, h2, h3, h4, h5, h6, h7⟩ := h
    exact ⟨by show 0 ≤ s.i + 1; omega, by show s.i + 1 ≤ _; omega, by show (s.out.length : Int) ≤ s.i + 1; omega, h4, h5, h6, h7⟩
theorem nextS_room {bs : List Int} {s : Rd} (h : RdOk bs s) (he : (nextS bs s).2.1 = 0) : ((nextS bs s).2.2.out.length : Int) + 1 ≤ (nextS bs s).2.2.i := by
  unfold nextS at he ⊢
  split
  · rename_i h1
    rw [if_pos h1] at he
    exact absurd (show (2 : Int) = 0 from he) (by decide)
  · show (s.out.length : Int) + 1 ≤ s.i + 1
    have := h.2.2.1
    omega
theorem reader_place (bs : List Int) (Ab : Option Addr) (cb : Nat) (s : Rd) (Ao : Option Addr) (co g : Nat) (gi c : Int) (h0 : 0 ≤ gi) (h3 : gi ≤ 3) (e_ : Int) (s2 : Rd) (hq : placeS bs s gi c = (e_, s2)) (hbs : ∀ x ∈ bs, 0 ≤ x ∧ x ≤ 255) (hlen : bs.length ≤ 100000) (hk : RdOk bs s) (w0 w : World) (hH : RH w0 w g bs Ab cb s Ao co) :
    Calls Try.prog 51 #[.pointer (some ⟨g, 0, none⟩), .int .i64 gi, .int .i64 c] w fun e w' => e = .returned (.int .i64 e_) ∧ ∃ A' c', RH w0 w' g bs Ab cb s2 A' c' := by
  have hi : 0 ≤ s.i ∧ s.i ≤ (bs.length : Int) := ⟨hk.1, hk.2.1⟩
  have hout : s.out.length ≤ 1000000 := by have := hk.2.2.1; have := hk.2.1; omega
  obtain ⟨⟨right, n, is⟩, hs⟩ : ∃ x, sideS c = x := ⟨_, rfl⟩
  have hS : shift_side.f c = some (right, n, is) := by rw [Side_f, hs]
  have hn := sideS_n c
  unfold placeS at hq
  rw [hs] at hq hn
  simp only at hq hn
  cases is with
  | false =>
    rw [if_neg Bool.false_ne_true] at hq
    simp only [Prod.mk.injEq] at hq
    obtain ⟨rfl, rfl⟩ := hq
    exact reader_place_no bs Ab cb s Ao co g gi c _ n right h0 h3 rfl hS hbs hlen hi w0 w hH
  | true =>
    have hn := hn rfl
    rw [if_pos rfl] at hq
    by_cases hz : gAt s gi = 0
    · rw [if_pos hz] at hq
      simp only [Prod.mk.injEq] at hq
      obtain ⟨rfl, rfl⟩ := hq
      exact reader_place_zero bs Ab cb s Ao co g gi c _ n right h0 h3 rfl hS hz hbs hlen hi w0 w hH
    · rw [if_neg hz] at hq
      by_cases hw : gAt s gi = 87
      · rw [if_pos hw] at hq
        have hok := nextS_ok hk
        obtain ⟨⟨d, e1, s1⟩, hN⟩ : ∃ x, nextS bs s = x := ⟨_, rfl⟩
        rw [hN] at hq hok
        simp only at hq hok
        by_cases he : e1 = 0
        · subst he
          rw [if_pos rfl] at hq
          obtain ⟨⟨also, m, is2⟩, hs2⟩ : ∃ x, sideS d = x := ⟨_, rfl⟩
          have hS2 : shift_side.f d = some (also, m, is2) := by rw [Side_f, hs2]
          have hm := sideS_n d
          rw [hs2] at hq hm
          simp only at hq hm
          by_cases hb : is2 = true ∧ also = right
          · rw [if_pos hb] at hq
            simp only [Prod.mk.injEq] at hq
            obtain ⟨rfl, rfl⟩ := hq
            obtain ⟨rfl, rfl⟩ := hb
            have hm := hm rfl
            exact reader_place_two bs Ab cb s Ao co g gi c n d s1 also h0 h3 hw (by have := hok.2.2.1; have := hok.2.1; omega) m (by omega) (by omega) hS hN hS2 hbs hlen hi w0 w hH
          · rw [if_neg hb] at hq
            simp only [Prod.mk.injEq] at hq
            obtain ⟨rfl, rfl⟩ := hq
            exact reader_place_bad bs Ab cb s Ao co g gi c n d s1 right h0 h3 hw m also is2 hS hN hS2 (by cases is2 with | false => exact .inl rfl | true => exact .inr (fun e => hb ⟨rfl, e⟩)) hbs hlen hi w0 w hH
        · rw [if_neg he] at hq
          simp only [Prod.mk.injEq] at hq
          obtain ⟨rfl, rfl⟩ := hq
          exact reader_place_short bs Ab cb s Ao co g gi c n d e1 s1 right h0 h3 hw hS hN he hbs hlen hi w0 w hH
      · rw [if_neg hw] at hq
        simp only [Prod.mk.injEq] at hq
        obtain ⟨rfl, rfl⟩ := hq
        exact reader_place_one bs Ab cb s Ao co g gi c _ n right h0 h3 rfl hout hS hz hw hbs hlen hi w0 w hH
set_option maxRecDepth 100000 in
set_option maxHeartbeats 2000000 in
theorem reader_single_short (bs : List Int) (Ab : Option Addr) (cb : Nat) (s : Rd) (Ao : Option Addr) (co g : Nat) (gi d e1 : Int) (he : e1 ≠ 0) (s1 : Rd) (hN : nextS bs s = (d, e1, s1)) (hbs : ∀ x ∈ bs, 0 ≤ x ∧ x ≤ 255) (hlen : bs.length ≤ 100000) (hk : RdOk bs s) (w0 w : World) (hH : RH w0 w g bs Ab cb s Ao co) :
    Calls Try.prog 49 #[.pointer (some ⟨g, 0, none⟩), .int .i64 gi] w fun e w' => e = .returned (.int .i64 e1) ∧ ∃ A' c', RH w0 w' g bs Ab cb s1 A' c' := by
  have z1 : (e1 != 0) = true := by simp [he]
  clear he
  have hi : 0 ≤ s.i ∧ s.i ≤ (bs.length : Int) := ⟨hk.1, hk.2.1⟩
  have HN := Aside0.mk hN
  have HK := Aside0.mk hk
  have HK1 := Aside0.mk (nextS_ok hk)
  rw [hN] at HK1
  have so1 : s1.out.length ≤ 1000000 := HK1.out.room hlen
  have HH := Aside0.mk hH
  obtain ⟨hc0, hc1, hc2, hc3, hc4, hc5, hc6, hc7, hc8, hf1, hf2, hf3, hf4, hf5, hf6, hf7, hf8⟩ := hH.facts
  clear hH
  clear hN hk
  go_enter Try.func49, Try.ntmps49
  go_wp2_with (first
    | (go_at_call 48; (with_reducible refine (reader_next bs Ab cb s Ao co g d e1 s1 HN.out hbs hlen hi w0 _ HH.out).mono ?_); rintro e w1 ⟨rfl, Ao1, co1, hn1⟩; have H1 := Aside0.mk hn1; clear hn1 HH hc0 hc1 hc2 hc3 hc4 hc5 hc6 hc7 hc8 hf1 hf2 hf3 hf4 hf5 hf6 hf7 hf8; obtain ⟨hc0, hc1, hc2, hc3, hc4, hc5, hc6, hc7, hc8, hf1, hf2, hf3, hf4, hf5, hf6, hf7, hf8⟩ := H1.out.facts))
  go_ret
  exact ⟨rfl, Ao1, co1, H1.out⟩
set_option maxRecDepth 100000 in
set_option maxHeartbeats 2000000 in
theorem reader_single_place (bs : List Int) (Ab : Option Addr) (cb : Nat) (s : Rd) (Ao : Option Addr) (co g : Nat) (gi d : Int) (h0 : 0 ≤ gi) (h3 : gi ≤ 3) (e2 : Int) (s2 : Rd) (s1 : Rd) (hN : nextS bs s = (d, 0, s1)) (hq : placeS bs s1 gi d = (e2, s2)) (hbs : ∀ x ∈ bs, 0 ≤ x ∧ x ≤ 255) (hlen : bs.length ≤ 100000) (hk : RdOk bs s) (w0 w : World) (hH : RH w0 w g bs Ab cb s Ao co) :
    Calls Try.prog 49 #[.pointer (some ⟨g, 0, none⟩), .int .i64 gi] w fun e w' => e = .returned (.int .i64 e2) ∧ ∃ A' c', RH w0 w' g bs Ab cb s2 A' c' := by
  have HQ := Aside0.mk hq
  clear hq
  have hi : 0 ≤ s.i ∧ s.i ≤ (bs.length : Int) := ⟨hk.1, hk.2.1⟩
  have HN := Aside0.mk hN
  have HK := Aside0.mk hk
  have HK1 := Aside0.mk (nextS_ok hk)
  rw [hN] at HK1
  have so1 : s1.out.length ≤ 1000000 := HK1.out.room hlen
  have HH := Aside0.mk hH
  obtain ⟨hc0, hc1, hc2, hc3, hc4, hc5, hc6, hc7, hc8, hf1, hf2, hf3, hf4, hf5, hf6, hf7, hf8⟩ := hH.facts
  clear hH
  clear hN hk
  go_enter Try.func49, Try.ntmps49
  go_wp2_with (first
    | (go_at_call 48; (with_reducible refine (reader_next bs Ab cb s Ao co g d 0 s1 HN.out hbs hlen hi w0 _ HH.out).mono ?_); rintro e w1 ⟨rfl, Ao1, co1, hn1⟩; have H1 := Aside0.mk hn1; clear hn1 HH hc0 hc1 hc2 hc3 hc4 hc5 hc6 hc7 hc8 hf1 hf2 hf3 hf4 hf5 hf6 hf7 hf8; obtain ⟨hc0, hc1, hc2, hc3, hc4, hc5, hc6, hc7, hc8, hf1, hf2, hf3, hf4, hf5, hf6, hf7, hf8⟩ := H1.out.facts)
    | (go_at_call 51; (with_reducible refine (reader_place bs Ab cb s1 Ao1 co1 g gi d h0 h3 e2 s2 HQ.out hbs hlen HK1.out w0 _ H1.out).mono ?_); rintro e w2 ⟨rfl, Ao2, co2, hn2⟩; have H2 := Aside0.mk hn2; clear hn2 H1 hc0 hc1 hc2 hc3 hc4 hc5 hc6 hc7 hc8 hf1 hf2 hf3 hf4 hf5 hf6 hf7 hf8; obtain ⟨hc0, hc1, hc2, hc3, hc4, hc5, hc6, hc7, hc8, hf1, hf2, hf3, hf4, hf5, hf6, hf7, hf8⟩ := H2.out.facts))
  go_ret
  exact ⟨rfl, Ao2, co2, H2.out⟩
def singleS (bs : List Int) (s : Rd) (gi : Int) : Int × Rd := if (nextS bs s).2.1 = 0 then placeS bs (nextS bs s).2.2 gi (nextS bs s).1 else ((nextS bs s).2.1, (nextS bs s).2.2)
theorem reader_single (bs : List Int) (Ab : Option Addr) (cb : Nat) (s : Rd) (Ao : Option Addr) (co g : Nat) (gi : Int) (h0 : 0 ≤ gi) (h3 : gi ≤ 3) (e_ : Int) (s2 : Rd) (hq : singleS bs s gi = (e_, s2)) (hbs : ∀ x ∈ bs, 0 ≤ x ∧ x ≤ 255) (hlen : bs.length ≤ 100000) (hk : RdOk bs s) (w0 w : World) (hH : RH w0 w g bs Ab cb s Ao co) :
    Calls Try.prog 49 #[.pointer (some ⟨g, 0, none⟩), .int .i64 gi] w fun e w' => e = .returned (.int .i64 e_) ∧ ∃ A' c', RH w0 w' g bs Ab cb s2 A' c' := by
  obtain ⟨⟨d, e1, s1⟩, hN⟩ : ∃ x, nextS bs s = x := ⟨_, rfl⟩
  unfold singleS at hq
  rw [hN] at hq
  simp only at hq
  by_cases he : e1 = 0
  · subst he
    rw [if_pos rfl] at hq
    exact reader_single_place bs Ab cb s Ao co g gi d h0 h3 e_ s2 s1 hN hq hbs hlen hk w0 w hH
  · rw [if_neg he] at hq
    simp only [Prod.mk.injEq] at hq
    obtain ⟨rfl, rfl⟩ := hq
    exact reader_single_short bs Ab cb s Ao co g gi d e1 he s1 hN hbs hlen hk w0 w hH
def isS (bs : List Int) (s : Rd) (want : Int) : Int × Rd := (if (nextS bs s).2.1 = 0 then (if (nextS bs s).1 = want then 0 else 11) else (nextS bs s).2.1, (nextS bs s).2.2)
set_option maxRecDepth 100000 in
set_option maxHeartbeats 2000000 in
theorem reader_is (bs : List Int) (Ab : Option Addr) (cb : Nat) (s : Rd) (Ao : Option Addr) (co g : Nat) (want e_ : Int) (s2 : Rd) (hq : isS bs s want = (e_, s2)) (hbs : ∀ x ∈ bs, 0 ≤ x ∧ x ≤ 255) (hlen : bs.length ≤ 100000) (hk : RdOk bs s) (w0 w : World) (hH : RH w0 w g bs Ab cb s Ao co) :
    Calls Try.prog 54 #[.pointer (some ⟨g, 0, none⟩), .int .i64 want] w fun e w' => e = .returned (.int .i64 e_) ∧ ∃ A' c', RH w0 w' g bs Ab cb s2 A' c' := by
  obtain ⟨⟨d, e1, s1⟩, hN⟩ : ∃ x, nextS bs s = x := ⟨_, rfl⟩
  unfold isS at hq
  rw [hN] at hq
  simp only [Prod.mk.injEq] at hq
  obtain ⟨hq, rfl⟩ := hq
  have hi : 0 ≤ s.i ∧ s.i ≤ (bs.length : Int) := ⟨hk.1, hk.2.1⟩
  have HN := Aside0.mk hN
  have HK := Aside0.mk hk
  have HK1 := Aside0.mk (nextS_ok hk)
  rw [hN] at HK1
  have so1 : s1.out.length ≤ 1000000 := HK1.out.room hlen
  have HH := Aside0.mk hH
  obtain ⟨hc0, hc1, hc2, hc3, hc4, hc5, hc6, hc7, hc8, hf1, hf2, hf3, hf4, hf5, hf6, hf7, hf8⟩ := hH.facts
  clear hH
  clear hN hk
  by_cases he : e1 = 0
  · subst he
    rw [if_pos rfl] at hq
    by_cases hw : d = want
    · rw [if_pos hw] at hq
      subst hq
      have z1 : (d != want) = false := by simp [hw]
      clear hw
      go_enter Try.func54, Try.ntmps54
      go_wp2_with (first
        | (go_at_call 48; (with_reducible refine (reader_next bs Ab cb s Ao co g d 0 s1 HN.out hbs hlen hi w0 _ HH.out).mono ?_); rintro e w1 ⟨rfl, Ao1, co1, hn1⟩; have H1 := Aside0.mk hn1; clear hn1 HH hc0 hc1 hc2 hc3 hc4 hc5 hc6 hc7 hc8 hf1 hf2 hf3 hf4 hf5 hf6 hf7 hf8; obtain ⟨hc0, hc1, hc2, hc3, hc4, hc5, hc6, hc7, hc8, hf1, hf2, hf3, hf4, hf5, hf6, hf7, hf8⟩ := H1.out.facts))
      go_ret
      exact ⟨rfl, Ao1, co1, H1.out⟩
    · rw [if_neg hw] at hq
      subst hq
      have z1 : (d != want) = true := by simp [hw]
      clear hw
      go_enter Try.func54, Try.ntmps54
      go_wp2_with (first
        | (go_at_call 48; (with_reducible refine (reader_next bs Ab cb s Ao co g d 0 s1 HN.out hbs hlen hi w0 _ HH.out).mono ?_); rintro e w1 ⟨rfl, Ao1, co1, hn1⟩; have H1 := Aside0.mk hn1; clear hn1 HH hc0 hc1 hc2 hc3 hc4 hc5 hc6 hc7 hc8 hf1 hf2 hf3 hf4 hf5 hf6 hf7 hf8; obtain ⟨hc0, hc1, hc2, hc3, hc4, hc5, hc6, hc7, hc8, hf1, hf2, hf3, hf4, hf5, hf6, hf7, hf8⟩ := H1.out.facts))
      go_ret
      exact ⟨rfl, Ao1, co1, H1.out⟩
  · rw [if_neg he] at hq
    subst hq
    have z1 : (e1 == 0) = false := by simp [he]
    clear he
    go_enter Try.func54, Try.ntmps54
    go_wp2_with (first
      | (go_at_call 48; (with_reducible refine (reader_next bs Ab cb s Ao co g d e1 s1 HN.out hbs hlen hi w0 _ HH.out).mono ?_); rintro e w1 ⟨rfl, Ao1, co1, hn1⟩; have H1 := Aside0.mk hn1; clear hn1 HH hc0 hc1 hc2 hc3 hc4 hc5 hc6 hc7 hc8 hf1 hf2 hf3 hf4 hf5 hf6 hf7 hf8; obtain ⟨hc0, hc1, hc2, hc3, hc4, hc5, hc6, hc7, hc8, hf1, hf2, hf3, hf4, hf5, hf6, hf7, hf8⟩ := H1.out.facts))
    go_ret
    exact ⟨rfl, Ao1, co1, H1.out⟩
def gSet (s : Rd) (gi v : Int) : Rd := if gi = 0 then { s with g0 := v } else if gi = 1 then { s with g1 := v } else if gi = 2 then { s with g2 := v } else { s with g3 := v }
theorem RH.gset {w0 W : World} {g : Nat} {bs : List Int} {Ab : Option Addr} {cb : Nat} {s : Rd} {Ao : Option Addr} {co : Nat} (h : RH w0 W g bs Ab cb s Ao co) (gi : Int) (h0 : 0 ≤ gi) (h3 : gi ≤ 3) (v : Int) : RH w0 (W.setCell ⟨g, 2 + gi.toNat, none⟩ (.int .i64 v)) g bs Ab cb (gSet s gi v) Ao co := by
  have : gi = 0 ∨ gi = 1 ∨ gi = 2 ∨ gi = 3 := by omega
  rcases this with rfl | rfl | rfl | rfl
  · exact h.set 2 (.int .i64 v) { s with g0 := v } rfl rfl
  · exact h.set 3 (.int .i64 v) { s with g1 := v } rfl rfl
  · exact h.set 4 (.int .i64 v) { s with g2 := v } rfl rfl
  · exact h.set 5 (.int .i64 v) { s with g3 := v } rfl rfl
def desigS (bs : List Int) (s : Rd) (gi : Int) (wide : Bool) : Int × Rd :=
  if (nextS bs s).2.1 = 0 then (if (byL (nextS bs s).1 wide setsL).2 = true then (0, gSet (nextS bs s).2.2 gi (byL (nextS bs s).1 wide setsL).1) else (12, (nextS bs s).2.2)) else ((nextS bs s).2.1, (nextS bs s).2.2)
set_option maxRecDepth 100000 in
set_option maxHeartbeats 2000000 in
theorem reader_designates (bs : List Int) (Ab : Option Addr) (cb : Nat) (s : Rd) (Ao : Option Addr) (co g : Nat) (gi : Int) (wide : Bool) (h0 : 0 ≤ gi) (h3 : gi ≤ 3) (e_ : Int) (s2 : Rd) (hq : desigS bs s gi wide = (e_, s2)) (hbs : ∀ x ∈ bs, 0 ≤ x ∧ x ≤ 255) (hlen : bs.length ≤ 100000) (hk : RdOk bs s) (w0 w : World) (hH : RH w0 w g bs Ab cb s Ao co) :
    Calls Try.prog 55 #[.pointer (some ⟨g, 0, none⟩), .int .i64 gi, .bool wide] w fun e w' => e = .returned (.int .i64 e_) ∧ ∃ A' c', RH w0 w' g bs Ab cb s2 A' c' := by
  have p0 : decide (0 ≤ gi) = true := decide_eq_true h0
  have p1 : decide (gi < 4) = true := decide_eq_true (by omega)
  obtain ⟨⟨d, e1, s1⟩, hN⟩ : ∃ x, nextS bs s = x := ⟨_, rfl⟩
  unfold desigS at hq
  rw [hN] at hq
  simp only at hq
  have hi : 0 ≤ s.i ∧ s.i ≤ (bs.length : Int) := ⟨hk.1, hk.2.1⟩
  have HN := Aside0.mk hN
  have HK := Aside0.mk hk
  have HK1 := Aside0.mk (nextS_ok hk)
  rw [hN] at HK1
  have so1 : s1.out.length ≤ 1000000 := HK1.out.room hlen
  have HH := Aside0.mk hH
  obtain ⟨hc0, hc1, hc2, hc3, hc4, hc5, hc6, hc7, hc8, hf1, hf2, hf3, hf4, hf5, hf6, hf7, hf8⟩ := hH.facts
  clear hH
  clear hN hk
  by_cases he : e1 = 0
  · subst he
    rw [if_pos rfl] at hq
    obtain ⟨⟨set, is⟩, hF⟩ : ∃ x, byL d wide setsL = x := ⟨_, rfl⟩
    have HF : Aside0 (csets_ByFinal.f 4000 d wide = some (set, is)) := ⟨by rw [ByFinal_f _ _ _ (by omega), hF]⟩
    rw [hF] at hq
    clear hF
    simp only at hq
    cases is with
    | false =>
      rw [if_neg Bool.false_ne_true] at hq
      simp only [Prod.mk.injEq] at hq
      obtain ⟨rfl, rfl⟩ := hq
      go_enter Try.func55, Try.ntmps55
      go_wp2_with (first
        | (go_at_call 48; (with_reducible refine (reader_next bs Ab cb s Ao co g d 0 s1 HN.out hbs hlen hi w0 _ HH.out).mono ?_); rintro e w1 ⟨rfl, Ao1, co1, hn1⟩; have H1 := Aside0.mk hn1; clear hn1 HH hc0 hc1 hc2 hc3 hc4 hc5 hc6 hc7 hc8 hf1 hf2 hf3 hf4 hf5 hf6 hf7 hf8; obtain ⟨hc0, hc1, hc2, hc3, hc4, hc5, hc6, hc7, hc8, hf1, hf2, hf3, hf4, hf5, hf6, hf7, hf8⟩ := H1.out.facts)
        | (go_at_call 60; (with_reducible refine (csets_ByFinal.calls 4000 d wide set false _ HF.out).mono ?_); rintro e w2 ⟨rfl, hbw2⟩; have H2 := Aside0.mk (H1.out.below hbw2); clear hbw2 H1 hc0 hc1 hc2 hc3 hc4 hc5 hc6 hc7 hc8 hf1 hf2 hf3 hf4 hf5 hf6 hf7 hf8; obtain ⟨hc0, hc1, hc2, hc3, hc4, hc5, hc6, hc7, hc8, hf1, hf2, hf3, hf4, hf5, hf6, hf7, hf8⟩ := H2.out.facts; have hcg : w2.cell? ⟨g, 2 + gi.toNat, none⟩ = some (.int .i64 (gAt s1 gi)) := H2.out.gcell gi h0 h3; have hfg := blk_frozen H2.out.1 (2 + gi.toNat)))
      go_ret
      exact ⟨rfl, Ao1, co1, H2.out⟩
    | true =>
      rw [if_pos rfl] at hq
      simp only [Prod.mk.injEq] at hq
      obtain ⟨rfl, rfl⟩ := hq
      go_enter Try.func55, Try.ntmps55
      go_wp2_with (first
        | (go_at_call 48; (with_reducible refine (reader_next bs Ab cb s Ao co g d 0 s1 HN.out hbs hlen hi w0 _ HH.out).mono ?_); rintro e w1 ⟨rfl, Ao1, co1, hn1⟩; have H1 := Aside0.mk hn1; clear hn1 HH hc0 hc1 hc2 hc3 hc4 hc5 hc6 hc7 hc8 hf1 hf2 hf3 hf4 hf5 hf6 hf7 hf8; obtain ⟨hc0, hc1, hc2, hc3, hc4, hc5, hc6, hc7, hc8, hf1, hf2, hf3, hf4, hf5, hf6, hf7, hf8⟩ := H1.out.facts)
        | (go_at_call 60; (with_reducible refine (csets_ByFinal.calls 4000 d wide set true _ HF.out).mono ?_); rintro e w2 ⟨rfl, hbw2⟩; have H2 := Aside0.mk (H1.out.below hbw2); clear hbw2 H1 hc0 hc1 hc2 hc3 hc4 hc5 hc6 hc7 hc8 hf1 hf2 hf3 hf4 hf5 hf6 hf7 hf8; obtain ⟨hc0, hc1, hc2, hc3, hc4, hc5, hc6, hc7, hc8, hf1, hf2, hf3, hf4, hf5, hf6, hf7, hf8⟩ := H2.out.facts; have hcg : w2.cell? ⟨g, 2 + gi.toNat, none⟩ = some (.int .i64 (gAt s1 gi)) := H2.out.gcell gi h0 h3; have hfg := blk_frozen H2.out.1 (2 + gi.toNat)))
      go_ret
      exact ⟨rfl, Ao1, co1, H2.out.gset gi h0 h3 set⟩
  · rw [if_neg he] at hq
    simp only [Prod.mk.injEq] at hq
    obtain ⟨rfl, rfl⟩ := hq
    have z1 : (e1 != 0) = true := by simp [he]
    clear he
    go_enter Try.func55, Try.ntmps55
    go_wp2_with (first
      | (go_at_call 48; (with_reducible refine (reader_next bs Ab cb s Ao co g d e1 s1 HN.out hbs hlen hi w0 _ HH.out).mono ?_); rintro e w1 ⟨rfl, Ao1, co1, hn1⟩; have H1 := Aside0.mk hn1; clear hn1 HH hc0 hc1 hc2 hc3 hc4 hc5 hc6 hc7 hc8 hf1 hf2 hf3 hf4 hf5 hf6 hf7 hf8; obtain ⟨hc0, hc1, hc2, hc3, hc4, hc5, hc6, hc7, hc8, hf1, hf2, hf3, hf4, hf5, hf6, hf7, hf8⟩ := H1.out.facts))
    go_ret
    exact ⟨rfl, Ao1, co1, H1.out⟩

def escS (bs : List Int) (s : Rd) : Int × Rd :=
  let c := (nextS bs s).1; let s1 := (nextS bs s).2.2
  if (nextS bs s).2.1 ≠ 0 then ((nextS bs s).2.1, s1)
  else if c = 33 then isS bs s1 69
  else if c = 34 then isS bs s1 72
  else if c = 110 ∨ c = 111 then (0, { s1 with left := c - 108 })
  else if c = 124 ∨ c = 125 ∨ c = 126 then (0, { s1 with right := 127 - c })
  else if c = 36 then
    (if (nextS bs s1).2.1 ≠ 0 then ((nextS bs s1).2.1, (nextS bs s1).2.2)
    else if (nextS bs s1).1 < 40 ∨ (nextS bs s1).1 ≥ 44 then (11, (nextS bs s1).2.2)
    else desigS bs (nextS bs s1).2.2 ((nextS bs s1).1 - 40) true)
  else if c < 40 ∨ c ≥ 44 then (11, s1)
  else desigS bs s1 (c - 40) false
set_option maxRecDepth 100000 in
set_option maxHeartbeats 2000000 in
theorem reader_esc_short (bs : List Int) (Ab : Option Addr) (cb : Nat) (s : Rd) (Ao : Option Addr) (co g : Nat) (d e1 : Int) (he : e1 ≠ 0) (s1 : Rd) (hN : nextS bs s = (d, e1, s1)) (hbs : ∀ x ∈ bs, 0 ≤ x ∧ x ≤ 255) (hlen : bs.length ≤ 100000) (hk : RdOk bs s) (w0 w : World) (hH : RH w0 w g bs Ab cb s Ao co) :
    Calls Try.prog 50 #[.pointer (some ⟨g, 0, none⟩)] w fun e w' => e = .returned (.int .i64 e1) ∧ ∃ A' c', RH w0 w' g bs Ab cb s1 A' c' := by
  have z1 : (e1 != 0) = true := by simp [he]
  clear he
  have hi : 0 ≤ s.i ∧ s.i ≤ (bs.length : Int) := ⟨hk.1, hk.2.1⟩
  have HN := Aside0.mk hN
  have HK := Aside0.mk hk
  have HK1 := Aside0.mk (nextS_ok hk)
  rw [hN] at HK1
  have so1 : s1.out.length ≤ 1000000 := HK1.out.room hlen
  have HH := Aside0.mk hH
  obtain ⟨hc0, hc1, hc2, hc3, hc4, hc5, hc6, hc7, hc8, hf1, hf2, hf3, hf4, hf5, hf6, hf7, hf8⟩ := hH.facts
  clear hH
  clear hN hk
  go_enter Try.func50, Try.ntmps50
  go_wp2_with (first
    | (go_at_call 48; (with_reducible refine (reader_next bs Ab cb s Ao co g d e1 s1 HN.out hbs hlen hi w0 _ HH.out).mono ?_); rintro e w1 ⟨rfl, Ao1, co1, hn1⟩; have H1 := Aside0.mk hn1; clear hn1 HH hc0 hc1 hc2 hc3 hc4 hc5 hc6 hc7 hc8 hf1 hf2 hf3 hf4 hf5 hf6 hf7 hf8; obtain ⟨hc0, hc1, hc2, hc3, hc4, hc5, hc6, hc7, hc8, hf1, hf2, hf3, hf4, hf5, hf6, hf7, hf8⟩ := H1.out.facts))
  go_ret
  exact ⟨rfl, Ao1, co1, H1.out⟩
set_option maxRecDepth 100000 in
set_option maxHeartbeats 2000000 in
theorem reader_esc_is33 (bs : List Int) (Ab : Option Addr) (cb : Nat) (s : Rd) (Ao : Option Addr) (co g : Nat) (e2 : Int) (s2 : Rd) (hq : ∀ s1, nextS bs s = (33, 0, s1) → isS bs s1 69 = (e2, s2)) (s1 : Rd) (hN : nextS bs s = (33, 0, s1)) (hbs : ∀ x ∈ bs, 0 ≤ x ∧ x ≤ 255) (hlen : bs.length ≤ 100000) (hk : RdOk bs s) (w0 w : World) (hH : RH w0 w g bs Ab cb s Ao co) :
    Calls Try.prog 50 #[.pointer (some ⟨g, 0, none⟩)] w fun e w' => e = .returned (.int .i64 e2) ∧ ∃ A' c', RH w0 w' g bs Ab cb s2 A' c' := by
  have HQ := Aside0.mk (hq s1 hN)
  clear hq
  have hi : 0 ≤ s.i ∧ s.i ≤ (bs.length : Int) := ⟨hk.1, hk.2.1⟩
  have HN := Aside0.mk hN
  have HK := Aside0.mk hk
  have HK1 := Aside0.mk (nextS_ok hk)
  rw [hN] at HK1
  have so1 : s1.out.length ≤ 1000000 := HK1.out.room hlen
  have HH := Aside0.mk hH
  obtain ⟨hc0, hc1, hc2, hc3, hc4, hc5, hc6, hc7, hc8, hf1, hf2, hf3, hf4, hf5, hf6, hf7, hf8⟩ := hH.facts
  clear hH
  clear hN hk
  go_enter Try.func50, Try.ntmps50
  go_wp2_with (first
    | (go_at_call 48; (with_reducible refine (reader_next bs Ab cb s Ao co g 33 0 s1 HN.out hbs hlen hi w0 _ HH.out).mono ?_); rintro e w1 ⟨rfl, Ao1, co1, hn1⟩; have H1 := Aside0.mk hn1; clear hn1 HH hc0 hc1 hc2 hc3 hc4 hc5 hc6 hc7 hc8 hf1 hf2 hf3 hf4 hf5 hf6 hf7 hf8; obtain ⟨hc0, hc1, hc2, hc3, hc4, hc5, hc6, hc7, hc8, hf1, hf2, hf3, hf4, hf5, hf6, hf7, hf8⟩ := H1.out.facts)
    | (go_at_call 54; (with_reducible refine (reader_is bs Ab cb s1 Ao1 co1 g 69 e2 s2 HQ.out hbs hlen HK1.out w0 _ H1.out).mono ?_); rintro e w2 ⟨rfl, Ao2, co2, hn2⟩; have H2 := Aside0.mk hn2; clear hn2 H1 hc0 hc1 hc2 hc3 hc4 hc5 hc6 hc7 hc8 hf1 hf2 hf3 hf4 hf5 hf6 hf7 hf8; obtain ⟨hc0, hc1, hc2, hc3, hc4, hc5, hc6, hc7, hc8, hf1, hf2, hf3, hf4, hf5, hf6, hf7, hf8⟩ := H2.out.facts))
  go_ret
  exact ⟨rfl, Ao2, co2, H2.out⟩
set_option maxRecDepth 100000 in
set_option maxHeartbeats 2000000 in
theorem reader_esc_is34 (bs : List Int) (Ab : Option Addr) (cb : Nat) (s : Rd) (Ao : Option Addr) (co g : Nat) (e2 : Int) (s2 : Rd) (hq : ∀ s1, nextS bs s = (34, 0, s1) → isS bs s1 72 = (e2, s2)) (s1 : Rd) (hN : nextS bs s = (34, 0, s1)) (hbs : ∀ x ∈ bs, 0 ≤ x ∧ x ≤ 255) (hlen : bs.length ≤ 100000) (hk : RdOk bs s) (w0 w : World) (hH : RH w0 w g bs Ab cb s Ao co) :
    Calls Try.prog 50 #[.pointer (some ⟨g, 0, none⟩)] w fun e w' => e = .returned (.int .i64 e2) ∧ ∃ A' c', RH w0 w' g bs Ab cb s2 A' c' := by
  have HQ := Aside0.mk (hq s1 hN)
  clear hq
  have hi : 0 ≤ s.i ∧ s.i ≤ (bs.length : Int) := ⟨hk.1, hk.2.1⟩
  have HN := Aside0.mk hN
  have HK := Aside0.mk hk
  have HK1 := Aside0.mk (nextS_ok hk)
  rw [hN] at HK1
  have so1 : s1.out.length ≤ 1000000 := HK1.out.room hlen
  have HH := Aside0.mk hH
  obtain ⟨hc0, hc1, hc2, hc3, hc4, hc5, hc6, hc7, hc8, hf1, hf2, hf3, hf4, hf5, hf6, hf7, hf8⟩ := hH.facts
  clear hH
  clear hN hk
  go_enter Try.func50, Try.ntmps50
  go_wp2_with (first
    | (go_at_call 48; (with_reducible refine (reader_next bs Ab cb s Ao co g 34 0 s1 HN.out hbs hlen hi w0 _ HH.out).mono ?_); rintro e w1 ⟨rfl, Ao1, co1, hn1⟩; have H1 := Aside0.mk hn1; clear hn1 HH hc0 hc1 hc2 hc3 hc4 hc5 hc6 hc7 hc8 hf1 hf2 hf3 hf4 hf5 hf6 hf7 hf8; obtain ⟨hc0, hc1, hc2, hc3, hc4, hc5, hc6, hc7, hc8, hf1, hf2, hf3, hf4, hf5, hf6, hf7, hf8⟩ := H1.out.facts)
    | (go_at_call 54; (with_reducible refine (reader_is bs Ab cb s1 Ao1 co1 g 72 e2 s2 HQ.out hbs hlen HK1.out w0 _ H1.out).mono ?_); rintro e w2 ⟨rfl, Ao2, co2, hn2⟩; have H2 := Aside0.mk hn2; clear hn2 H1 hc0 hc1 hc2 hc3 hc4 hc5 hc6 hc7 hc8 hf1 hf2 hf3 hf4 hf5 hf6 hf7 hf8; obtain ⟨hc0, hc1, hc2, hc3, hc4, hc5, hc6, hc7, hc8, hf1, hf2, hf3, hf4, hf5, hf6, hf7, hf8⟩ := H2.out.facts))
  go_ret
  exact ⟨rfl, Ao2, co2, H2.out⟩
set_option maxRecDepth 100000 in
set_option maxHeartbeats 2000000 in
theorem reader_esc_at110 (bs : List Int) (Ab : Option Addr) (cb : Nat) (s : Rd) (Ao : Option Addr) (co g : Nat) (s1 : Rd) (hN : nextS bs s = (110, 0, s1)) (hbs : ∀ x ∈ bs, 0 ≤ x ∧ x ≤ 255) (hlen : bs.length ≤ 100000) (hk : RdOk bs s) (w0 w : World) (hH : RH w0 w g bs Ab cb s Ao co) :
    Calls Try.prog 50 #[.pointer (some ⟨g, 0, none⟩)] w fun e w' => e = .returned (.int .i64 0) ∧ ∃ A' c', RH w0 w' g bs Ab cb { s1 with left := 2 } A' c' := by
  have hi : 0 ≤ s.i ∧ s.i ≤ (bs.length : Int) := ⟨hk.1, hk.2.1⟩
  have HN := Aside0.mk hN
  have HK := Aside0.mk hk
  have HK1 := Aside0.mk (nextS_ok hk)
  rw [hN] at HK1
  have so1 : s1.out.length ≤ 1000000 := HK1.out.room hlen
  have HH := Aside0.mk hH
  obtain ⟨hc0, hc1, hc2, hc3, hc4, hc5, hc6, hc7, hc8, hf1, hf2, hf3, hf4, hf5, hf6, hf7, hf8⟩ := hH.facts
  clear hH
  clear hN hk
  go_enter Try.func50, Try.ntmps50
  go_wp2_with (first
    | (go_at_call 48; (with_reducible refine (reader_next bs Ab cb s Ao co g 110 0 s1 HN.out hbs hlen hi w0 _ HH.out).mono ?_); rintro e w1 ⟨rfl, Ao1, co1, hn1⟩; have H1 := Aside0.mk hn1; clear hn1 HH hc0 hc1 hc2 hc3 hc4 hc5 hc6 hc7 hc8 hf1 hf2 hf3 hf4 hf5 hf6 hf7 hf8; obtain ⟨hc0, hc1, hc2, hc3, hc4, hc5, hc6, hc7, hc8, hf1, hf2, hf3, hf4, hf5, hf6, hf7, hf8⟩ := H1.out.facts))
  go_ret
  exact ⟨rfl, Ao1, co1, H1.out.set 6 (.int .i64 2) { s1 with left := 2 } rfl rfl⟩
set_option maxRecDepth 100000 in
set_option maxHeartbeats 2000000 in
theorem reader_esc_at111 (bs : List Int) (Ab : Option Addr) (cb : Nat) (s : Rd) (Ao : Option Addr) (co g : Nat) (s1 : Rd) (hN : nextS bs s = (111, 0, s1)) (hbs : ∀ x ∈ bs, 0 ≤ x ∧ x ≤ 255) (hlen : bs.length ≤ 100000) (hk : RdOk bs s) (w0 w : World) (hH : RH w0 w g bs Ab cb s Ao co) :
    Calls Try.prog 50 #[.pointer (some ⟨g, 0, none⟩)] w fun e w' => e = .returned (.int .i64 0) ∧ ∃ A' c', RH w0 w' g bs Ab cb { s1 with left := 3 } A' c' := by
  have hi : 0 ≤ s.i ∧ s.i ≤ (bs.length : Int) := ⟨hk.1, hk.2.1⟩
  have HN := Aside0.mk hN
  have HK := Aside0.mk hk
  have HK1 := Aside0.mk (nextS_ok hk)
  rw [hN] at HK1
  have so1 : s1.out.length ≤ 1000000 := HK1.out.room hlen
  have HH := Aside0.mk hH
  obtain ⟨hc0, hc1, hc2, hc3, hc4, hc5, hc6, hc7, hc8, hf1, hf2, hf3, hf4, hf5, hf6, hf7, hf8⟩ := hH.facts
  clear hH
  clear hN hk
  go_enter Try.func50, Try.ntmps50
  go_wp2_with (first
    | (go_at_call 48; (with_reducible refine (reader_next bs Ab cb s Ao co g 111 0 s1 HN.out hbs hlen hi w0 _ HH.out).mono ?_); rintro e w1 ⟨rfl, Ao1, co1, hn1⟩; have H1 := Aside0.mk hn1; clear hn1 HH hc0 hc1 hc2 hc3 hc4 hc5 hc6 hc7 hc8 hf1 hf2 hf3 hf4 hf5 hf6 hf7 hf8; obtain ⟨hc0, hc1, hc2, hc3, hc4, hc5, hc6, hc7, hc8, hf1, hf2, hf3, hf4, hf5, hf6, hf7, hf8⟩ := H1.out.facts))
  go_ret
  exact ⟨rfl, Ao1, co1, H1.out.set 6 (.int .i64 3) { s1 with left := 3 } rfl rfl⟩
set_option maxRecDepth 100000 in
set_option maxHeartbeats 2000000 in
theorem reader_esc_at124 (bs : List Int) (Ab : Option Addr) (cb : Nat) (s : Rd) (Ao : Option Addr) (co g : Nat) (s1 : Rd) (hN : nextS bs s = (124, 0, s1)) (hbs : ∀ x ∈ bs, 0 ≤ x ∧ x ≤ 255) (hlen : bs.length ≤ 100000) (hk : RdOk bs s) (w0 w : World) (hH : RH w0 w g bs Ab cb s Ao co) :
    Calls Try.prog 50 #[.pointer (some ⟨g, 0, none⟩)] w fun e w' => e = .returned (.int .i64 0) ∧ ∃ A' c', RH w0 w' g bs Ab cb { s1 with right := 3 } A' c' := by
  have hi : 0 ≤ s.i ∧ s.i ≤ (bs.length : Int) := ⟨hk.1, hk.2.1⟩
  have HN := Aside0.mk hN
  have HK := Aside0.mk hk
  have HK1 := Aside0.mk (nextS_ok hk)
  rw [hN] at HK1
  have so1 : s1.out.length ≤ 1000000 := HK1.out.room hlen
  have HH := Aside0.mk hH
  obtain ⟨hc0, hc1, hc2, hc3, hc4, hc5, hc6, hc7, hc8, hf1, hf2, hf3, hf4, hf5, hf6, hf7, hf8⟩ := hH.facts
  clear hH
  clear hN hk
  go_enter Try.func50, Try.ntmps50
  go_wp2_with (first
    | (go_at_call 48; (with_reducible refine (reader_next bs Ab cb s Ao co g 124 0 s1 HN.out hbs hlen hi w0 _ HH.out).mono ?_); rintro e w1 ⟨rfl, Ao1, co1, hn1⟩; have H1 := Aside0.mk hn1; clear hn1 HH hc0 hc1 hc2 hc3 hc4 hc5 hc6 hc7 hc8 hf1 hf2 hf3 hf4 hf5 hf6 hf7 hf8; obtain ⟨hc0, hc1, hc2, hc3, hc4, hc5, hc6, hc7, hc8, hf1, hf2, hf3, hf4, hf5, hf6, hf7, hf8⟩ := H1.out.facts))
  go_ret
  exact ⟨rfl, Ao1, co1, H1.out.set 7 (.int .i64 3) { s1 with right := 3 } rfl rfl⟩
set_option maxRecDepth 100000 in
set_option maxHeartbeats 2000000 in
theorem reader_esc_at125 (bs : List Int) (Ab : Option Addr) (cb : Nat) (s : Rd) (Ao : Option Addr) (co g : Nat) (s1 : Rd) (hN : nextS bs s = (125, 0, s1)) (hbs : ∀ x ∈ bs, 0 ≤ x ∧ x ≤ 255) (hlen : bs.length ≤ 100000) (hk : RdOk bs s) (w0 w : World) (hH : RH w0 w g bs Ab cb s Ao co) :
    Calls Try.prog 50 #[.pointer (some ⟨g, 0, none⟩)] w fun e w' => e = .returned (.int .i64 0) ∧ ∃ A' c', RH w0 w' g bs Ab cb { s1 with right := 2 } A' c' := by
  have hi : 0 ≤ s.i ∧ s.i ≤ (bs.length : Int) := ⟨hk.1, hk.2.1⟩
  have HN := Aside0.mk hN
  have HK := Aside0.mk hk
  have HK1 := Aside0.mk (nextS_ok hk)
  rw [hN] at HK1
  have so1 : s1.out.length ≤ 1000000 := HK1.out.room hlen
  have HH := Aside0.mk hH
  obtain ⟨hc0, hc1, hc2, hc3, hc4, hc5, hc6, hc7, hc8, hf1, hf2, hf3, hf4, hf5, hf6, hf7, hf8⟩ := hH.facts
  clear hH
  clear hN hk
  go_enter Try.func50, Try.ntmps50
  go_wp2_with (first
    | (go_at_call 48; (with_reducible refine (reader_next bs Ab cb s Ao co g 125 0 s1 HN.out hbs hlen hi w0 _ HH.out).mono ?_); rintro e w1 ⟨rfl, Ao1, co1, hn1⟩; have H1 := Aside0.mk hn1; clear hn1 HH hc0 hc1 hc2 hc3 hc4 hc5 hc6 hc7 hc8 hf1 hf2 hf3 hf4 hf5 hf6 hf7 hf8; obtain ⟨hc0, hc1, hc2, hc3, hc4, hc5, hc6, hc7, hc8, hf1, hf2, hf3, hf4, hf5, hf6, hf7, hf8⟩ := H1.out.facts))
  go_ret
  exact ⟨rfl, Ao1, co1, H1.out.set 7 (.int .i64 2) { s1 with right := 2 } rfl rfl⟩
set_option maxRecDepth 100000 in
set_option maxHeartbeats 2000000 in
theorem reader_esc_at126 (bs : List Int) (Ab : Option Addr) (cb : Nat) (s : Rd) (Ao : Option Addr) (co g : Nat) (s1 : Rd) (hN : nextS bs s = (126, 0, s1)) (hbs : ∀ x ∈ bs, 0 ≤ x ∧ x ≤ 255) (hlen : bs.length ≤ 100000) (hk : RdOk bs s) (w0 w : World) (hH : RH w0 w g bs Ab cb s Ao co) :
    Calls Try.prog 50 #[.pointer (some ⟨g, 0, none⟩)] w fun e w' => e = .returned (.int .i64 0) ∧ ∃ A' c', RH w0 w' g bs Ab cb { s1 with right := 1 } A' c' := by
  have hi : 0 ≤ s.i ∧ s.i ≤ (bs.length : Int) := ⟨hk.1, hk.2.1⟩
  have HN := Aside0.mk hN
  have HK := Aside0.mk hk
  have HK1 := Aside0.mk (nextS_ok hk)
  rw [hN] at HK1
  have so1 : s1.out.length ≤ 1000000 := HK1.out.room hlen
  have HH := Aside0.mk hH
  obtain ⟨hc0, hc1, hc2, hc3, hc4, hc5, hc6, hc7, hc8, hf1, hf2, hf3, hf4, hf5, hf6, hf7, hf8⟩ := hH.facts
  clear hH
  clear hN hk
  go_enter Try.func50, Try.ntmps50
  go_wp2_with (first
    | (go_at_call 48; (with_reducible refine (reader_next bs Ab cb s Ao co g 126 0 s1 HN.out hbs hlen hi w0 _ HH.out).mono ?_); rintro e w1 ⟨rfl, Ao1, co1, hn1⟩; have H1 := Aside0.mk hn1; clear hn1 HH hc0 hc1 hc2 hc3 hc4 hc5 hc6 hc7 hc8 hf1 hf2 hf3 hf4 hf5 hf6 hf7 hf8; obtain ⟨hc0, hc1, hc2, hc3, hc4, hc5, hc6, hc7, hc8, hf1, hf2, hf3, hf4, hf5, hf6, hf7, hf8⟩ := H1.out.facts))
  go_ret
  exact ⟨rfl, Ao1, co1, H1.out.set 7 (.int .i64 1) { s1 with right := 1 } rfl rfl⟩
set_option maxRecDepth 100000 in
set_option maxHeartbeats 2000000 in
theorem reader_esc_wide_short (bs : List Int) (Ab : Option Addr) (cb : Nat) (s : Rd) (Ao : Option Addr) (co g : Nat) (d2 e2 : Int) (he : e2 ≠ 0) (s2 : Rd) (hN2 : ∀ s1, nextS bs s = (36, 0, s1) → nextS bs s1 = (d2, e2, s2)) (s1 : Rd) (hN : nextS bs s = (36, 0, s1)) (hbs : ∀ x ∈ bs, 0 ≤ x ∧ x ≤ 255) (hlen : bs.length ≤ 100000) (hk : RdOk bs s) (w0 w : World) (hH : RH w0 w g bs Ab cb s Ao co) :
    Calls Try.prog 50 #[.pointer (some ⟨g, 0, none⟩)] w fun e w' => e = .returned (.int .i64 e2) ∧ ∃ A' c', RH w0 w' g bs Ab cb s2 A' c' := by
  have z1 : (e2 != 0) = true := by simp [he]
  clear he
  have HN2 := Aside0.mk (hN2 s1 hN)
  clear hN2
  have hi : 0 ≤ s.i ∧ s.i ≤ (bs.length : Int) := ⟨hk.1, hk.2.1⟩
  have HN := Aside0.mk hN
  have HK := Aside0.mk hk
  have HK1 := Aside0.mk (nextS_ok hk)
  rw [hN] at HK1
  have so1 : s1.out.length ≤ 1000000 := HK1.out.room hlen
  have HH := Aside0.mk hH
  obtain ⟨hc0, hc1, hc2, hc3, hc4, hc5, hc6, hc7, hc8, hf1, hf2, hf3, hf4, hf5, hf6, hf7, hf8⟩ := hH.facts
  clear hH
  clear hN hk
  go_enter Try.func50, Try.ntmps50
  go_wp2_with (first
    | (go_at_call 48; (with_reducible refine (reader_next bs Ab cb s Ao co g 36 0 s1 HN.out hbs hlen hi w0 _ HH.out).mono ?_); rintro e w1 ⟨rfl, Ao1, co1, hn1⟩; have H1 := Aside0.mk hn1; clear hn1 HH hc0 hc1 hc2 hc3 hc4 hc5 hc6 hc7 hc8 hf1 hf2 hf3 hf4 hf5 hf6 hf7 hf8; obtain ⟨hc0, hc1, hc2, hc3, hc4, hc5, hc6, hc7, hc8, hf1, hf2, hf3, hf4, hf5, hf6, hf7, hf8⟩ := H1.out.facts)
    | (go_at_call 48; (with_reducible refine (reader_next bs Ab cb s1 Ao1 co1 g d2 e2 s2 HN2.out hbs hlen HK1.out.at_i w0 _ H1.out).mono ?_); rintro e w2 ⟨rfl, Ao2, co2, hn2⟩; have H2 := Aside0.mk hn2; clear hn2 H1 hc0 hc1 hc2 hc3 hc4 hc5 hc6 hc7 hc8 hf1 hf2 hf3 hf4 hf5 hf6 hf7 hf8; obtain ⟨hc0, hc1, hc2, hc3, hc4, hc5, hc6, hc7, hc8, hf1, hf2, hf3, hf4, hf5, hf6, hf7, hf8⟩ := H2.out.facts))
  go_ret
  exact ⟨rfl, Ao2, co2, H2.out⟩
set_option maxRecDepth 100000 in
set_option maxHeartbeats 2000000 in
theorem reader_esc_wide_low (bs : List Int) (Ab : Option Addr) (cb : Nat) (s : Rd) (Ao : Option Addr) (co g : Nat) (d2 : Int) (hc : d2 < 40) (s2 : Rd) (hN2 : ∀ s1, nextS bs s = (36, 0, s1) → nextS bs s1 = (d2, 0, s2)) (s1 : Rd) (hN : nextS bs s = (36, 0, s1)) (hbs : ∀ x ∈ bs, 0 ≤ x ∧ x ≤ 255) (hlen : bs.length ≤ 100000) (hk : RdOk bs s) (w0 w : World) (hH : RH w0 w g bs Ab cb s Ao co) :
    Calls Try.prog 50 #[.pointer (some ⟨g, 0, none⟩)] w fun e w' => e = .returned (.int .i64 11) ∧ ∃ A' c', RH w0 w' g bs Ab cb s2 A' c' := by
  have z2 : decide (d2 < 40) = true := decide_eq_true hc
  have HN2 := Aside0.mk (hN2 s1 hN)
  clear hN2
  have hi : 0 ≤ s.i ∧ s.i ≤ (bs.length : Int) := ⟨hk.1, hk.2.1⟩
  have HN := Aside0.mk hN
  have HK := Aside0.mk hk
  have HK1 := Aside0.mk (nextS_ok hk)
  rw [hN] at HK1
  have so1 : s1.out.length ≤ 1000000 := HK1.out.room hlen
  have HH := Aside0.mk hH
  obtain ⟨hc0, hc1, hc2, hc3, hc4, hc5, hc6, hc7, hc8, hf1, hf2, hf3, hf4, hf5, hf6, hf7, hf8⟩ := hH.facts
  clear hH
  clear hN hk
  go_enter Try.func50, Try.ntmps50
  go_wp2_with (first
    | (go_at_call 48; (with_reducible refine (reader_next bs Ab cb s Ao co g 36 0 s1 HN.out hbs hlen hi w0 _ HH.out).mono ?_); rintro e w1 ⟨rfl, Ao1, co1, hn1⟩; have H1 := Aside0.mk hn1; clear hn1 HH hc0 hc1 hc2 hc3 hc4 hc5 hc6 hc7 hc8 hf1 hf2 hf3 hf4 hf5 hf6 hf7 hf8; obtain ⟨hc0, hc1, hc2, hc3, hc4, hc5, hc6, hc7, hc8, hf1, hf2, hf3, hf4, hf5, hf6, hf7, hf8⟩ := H1.out.facts)
    | (go_at_call 48; (with_reducible refine (reader_next bs Ab cb s1 Ao1 co1 g d2 0 s2 HN2.out hbs hlen HK1.out.at_i w0 _ H1.out).mono ?_); rintro e w2 ⟨rfl, Ao2, co2, hn2⟩; have H2 := Aside0.mk hn2; clear hn2 H1 hc0 hc1 hc2 hc3 hc4 hc5 hc6 hc7 hc8 hf1 hf2 hf3 hf4 hf5 hf6 hf7 hf8; obtain ⟨hc0, hc1, hc2, hc3, hc4, hc5, hc6, hc7, hc8, hf1, hf2, hf3, hf4, hf5, hf6, hf7, hf8⟩ := H2.out.facts))
  go_ret
  exact ⟨rfl, Ao2, co2, H2.out⟩
set_option maxRecDepth 100000 in
set_option maxHeartbeats 2000000 in
theorem reader_esc_wide_high (bs : List Int) (Ab : Option Addr) (cb : Nat) (s : Rd) (Ao : Option Addr) (co g : Nat) (d2 : Int) (hc : d2 ≥ 44) (s2 : Rd) (hN2 : ∀ s1, nextS bs s = (36, 0, s1) → nextS bs s1 = (d2, 0, s2)) (s1 : Rd) (hN : nextS bs s = (36, 0, s1)) (hbs : ∀ x ∈ bs, 0 ≤ x ∧ x ≤ 255) (hlen : bs.length ≤ 100000) (hk : RdOk bs s) (w0 w : World) (hH : RH w0 w g bs Ab cb s Ao co) :
    Calls Try.prog 50 #[.pointer (some ⟨g, 0, none⟩)] w fun e w' => e = .returned (.int .i64 11) ∧ ∃ A' c', RH w0 w' g bs Ab cb s2 A' c' := by
  have z2 : decide (d2 < 40) = false := decide_eq_false (by omega)
  have z3 : decide (44 ≤ d2) = true := decide_eq_true hc
  have HN2 := Aside0.mk (hN2 s1 hN)
  clear hN2
  have hi : 0 ≤ s.i ∧ s.i ≤ (bs.length : Int) := ⟨hk.1, hk.2.1⟩
  have HN := Aside0.mk hN
  have HK := Aside0.mk hk
  have HK1 := Aside0.mk (nextS_ok hk)
  rw [hN] at HK1
  have so1 : s1.out.length ≤ 1000000 := HK1.out.room hlen
  have HH := Aside0.mk hH
  obtain ⟨hc0, hc1, hc2, hc3, hc4, hc5, hc6, hc7, hc8, hf1, hf2, hf3, hf4, hf5, hf6, hf7, hf8⟩ := hH.facts
  clear hH
  clear hN hk
  go_enter Try.func50, Try.ntmps50
  go_wp2_with (first
    | (go_at_call 48; (with_reducible refine (reader_next bs Ab cb s Ao co g 36 0 s1 HN.out hbs hlen hi w0 _ HH.out).mono ?_); rintro e w1 ⟨rfl, Ao1, co1, hn1⟩; have H1 := Aside0.mk hn1; clear hn1 HH hc0 hc1 hc2 hc3 hc4 hc5 hc6 hc7 hc8 hf1 hf2 hf3 hf4 hf5 hf6 hf7 hf8; obtain ⟨hc0, hc1, hc2, hc3, hc4, hc5, hc6, hc7, hc8, hf1, hf2, hf3, hf4, hf5, hf6, hf7, hf8⟩ := H1.out.facts)
    | (go_at_call 48; (with_reducible refine (reader_next bs Ab cb s1 Ao1 co1 g d2 0 s2 HN2.out hbs hlen HK1.out.at_i w0 _ H1.out).mono ?_); rintro e w2 ⟨rfl, Ao2, co2, hn2⟩; have H2 := Aside0.mk hn2; clear hn2 H1 hc0 hc1 hc2 hc3 hc4 hc5 hc6 hc7 hc8 hf1 hf2 hf3 hf4 hf5 hf6 hf7 hf8; obtain ⟨hc0, hc1, hc2, hc3, hc4, hc5, hc6, hc7, hc8, hf1, hf2, hf3, hf4, hf5, hf6, hf7, hf8⟩ := H2.out.facts))
  go_ret
  exact ⟨rfl, Ao2, co2, H2.out⟩
set_option maxRecDepth 100000 in
set_option maxHeartbeats 2000000 in
theorem reader_esc_wide_set (bs : List Int) (Ab : Option Addr) (cb : Nat) (s : Rd) (Ao : Option Addr) (co g : Nat) (d2 : Int) (hc : 40 ≤ d2) (hc2 : d2 < 44) (e3 : Int) (s3 : Rd) (s2 : Rd) (hN2 : ∀ s1, nextS bs s = (36, 0, s1) → nextS bs s1 = (d2, 0, s2)) (hq : desigS bs s2 (d2 - 40) true = (e3, s3)) (hk2 : RdOk bs s2) (s1 : Rd) (hN : nextS bs s = (36, 0, s1)) (hbs : ∀ x ∈ bs, 0 ≤ x ∧ x ≤ 255) (hlen : bs.length ≤ 100000) (hk : RdOk bs s) (w0 w : World) (hH : RH w0 w g bs Ab cb s Ao co) :
    Calls Try.prog 50 #[.pointer (some ⟨g, 0, none⟩)] w fun e w' => e = .returned (.int .i64 e3) ∧ ∃ A' c', RH w0 w' g bs Ab cb s3 A' c' := by
  have z2 : decide (d2 < 40) = false := decide_eq_false (by omega)
  have z3 : decide (44 ≤ d2) = false := decide_eq_false (by omega)
  have HQ := Aside0.mk hq
  have HK2 := Aside0.mk hk2
  clear hq hk2
  have HN2 := Aside0.mk (hN2 s1 hN)
  clear hN2
  have hi : 0 ≤ s.i ∧ s.i ≤ (bs.length : Int) := ⟨hk.1, hk.2.1⟩
  have HN := Aside0.mk hN
  have HK := Aside0.mk hk
  have HK1 := Aside0.mk (nextS_ok hk)
  rw [hN] at HK1
  have so1 : s1.out.length ≤ 1000000 := HK1.out.room hlen
  have HH := Aside0.mk hH
  obtain ⟨hc0, hc1, hc2, hc3, hc4, hc5, hc6, hc7, hc8, hf1, hf2, hf3, hf4, hf5, hf6, hf7, hf8⟩ := hH.facts
  clear hH
  clear hN hk
  go_enter Try.func50, Try.ntmps50
  go_wp2_with (first
    | (go_at_call 48; (with_reducible refine (reader_next bs Ab cb s Ao co g 36 0 s1 HN.out hbs hlen hi w0 _ HH.out).mono ?_); rintro e w1 ⟨rfl, Ao1, co1, hn1⟩; have H1 := Aside0.mk hn1; clear hn1 HH hc0 hc1 hc2 hc3 hc4 hc5 hc6 hc7 hc8 hf1 hf2 hf3 hf4 hf5 hf6 hf7 hf8; obtain ⟨hc0, hc1, hc2, hc3, hc4, hc5, hc6, hc7, hc8, hf1, hf2, hf3, hf4, hf5, hf6, hf7, hf8⟩ := H1.out.facts)
    | (go_at_call 48; (with_reducible refine (reader_next bs Ab cb s1 Ao1 co1 g d2 0 s2 HN2.out hbs hlen HK1.out.at_i w0 _ H1.out).mono ?_); rintro e w2 ⟨rfl, Ao2, co2, hn2⟩; have H2 := Aside0.mk hn2; clear hn2 H1 hc0 hc1 hc2 hc3 hc4 hc5 hc6 hc7 hc8 hf1 hf2 hf3 hf4 hf5 hf6 hf7 hf8; obtain ⟨hc0, hc1, hc2, hc3, hc4, hc5, hc6, hc7, hc8, hf1, hf2, hf3, hf4, hf5, hf6, hf7, hf8⟩ := H2.out.facts)
    | (go_at_call 55; (with_reducible refine (reader_designates bs Ab cb s2 Ao2 co2 g (d2 - 40) true (by omega) (by omega) e3 s3 HQ.out hbs hlen HK2.out w0 _ H2.out).mono ?_); rintro e w3 ⟨rfl, Ao3, co3, hn3⟩; have H3 := Aside0.mk hn3; clear hn3 H2 hc0 hc1 hc2 hc3 hc4 hc5 hc6 hc7 hc8 hf1 hf2 hf3 hf4 hf5 hf6 hf7 hf8; obtain ⟨hc0, hc1, hc2, hc3, hc4, hc5, hc6, hc7, hc8, hf1, hf2, hf3, hf4, hf5, hf6, hf7, hf8⟩ := H3.out.facts))
  go_ret
  exact ⟨rfl, Ao3, co3, H3.out⟩
set_option maxRecDepth 100000 in
set_option maxHeartbeats 2000000 in
theorem reader_esc_low (bs : List Int) (Ab : Option Addr) (cb : Nat) (s : Rd) (Ao : Option Addr) (co g : Nat) (d : Int) (hc : d < 40) (hd : d ≠ 33 ∧ d ≠ 34 ∧ d ≠ 36) (s1 : Rd) (hN : nextS bs s = (d, 0, s1)) (hbs : ∀ x ∈ bs, 0 ≤ x ∧ x ≤ 255) (hlen : bs.length ≤ 100000) (hk : RdOk bs s) (w0 w : World) (hH : RH w0 w g bs Ab cb s Ao co) :
    Calls Try.prog 50 #[.pointer (some ⟨g, 0, none⟩)] w fun e w' => e = .returned (.int .i64 11) ∧ ∃ A' c', RH w0 w' g bs Ab cb s1 A' c' := by
  have y33 : (d == 33) = false := by simp; omega
  have y34 : (d == 34) = false := by simp; omega
  have y110 : (d == 110) = false := by simp; omega
  have y111 : (d == 111) = false := by simp; omega
  have y124 : (d == 124) = false := by simp; omega
  have y125 : (d == 125) = false := by simp; omega
  have y126 : (d == 126) = false := by simp; omega
  have y36 : (d == 36) = false := by simp; omega
  have z2 : decide (d < 40) = true := decide_eq_true hc
  clear hd
  have hi : 0 ≤ s.i ∧ s.i ≤ (bs.length : Int) := ⟨hk.1, hk.2.1⟩
  have HN := Aside0.mk hN
  have HK := Aside0.mk hk
  have HK1 := Aside0.mk (nextS_ok hk)
  rw [hN] at HK1
  have so1 : s1.out.length ≤ 1000000 := HK1.out.room hlen
  have HH := Aside0.mk hH
  obtain ⟨hc0, hc1, hc2, hc3, hc4, hc5, hc6, hc7, hc8, hf1, hf2, hf3, hf4, hf5, hf6, hf7, hf8⟩ := hH.facts
  clear hH
  clear hN hk
  go_enter Try.func50, Try.ntmps50
  go_wp2_with (first
    | (go_at_call 48; (with_reducible refine (reader_next bs Ab cb s Ao co g d 0 s1 HN.out hbs hlen hi w0 _ HH.out).mono ?_); rintro e w1 ⟨rfl, Ao1, co1, hn1⟩; have H1 := Aside0.mk hn1; clear hn1 HH hc0 hc1 hc2 hc3 hc4 hc5 hc6 hc7 hc8 hf1 hf2 hf3 hf4 hf5 hf6 hf7 hf8; obtain ⟨hc0, hc1, hc2, hc3, hc4, hc5, hc6, hc7, hc8, hf1, hf2, hf3, hf4, hf5, hf6, hf7, hf8⟩ := H1.out.facts))
  go_ret
  exact ⟨rfl, Ao1, co1, H1.out⟩
set_option maxRecDepth 100000 in
set_option maxHeartbeats 2000000 in
theorem reader_esc_high (bs : List Int) (Ab : Option Addr) (cb : Nat) (s : Rd) (Ao : Option Addr) (co g : Nat) (d : Int) (hc : d ≥ 44) (hd : d ≠ 110 ∧ d ≠ 111 ∧ d ≠ 124 ∧ d ≠ 125 ∧ d ≠ 126) (s1 : Rd) (hN : nextS bs s = (d, 0, s1)) (hbs : ∀ x ∈ bs, 0 ≤ x ∧ x ≤ 255) (hlen : bs.length ≤ 100000) (hk : RdOk bs s) (w0 w : World) (hH : RH w0 w g bs Ab cb s Ao co) :
    Calls Try.prog 50 #[.pointer (some ⟨g, 0, none⟩)] w fun e w' => e = .returned (.int .i64 11) ∧ ∃ A' c', RH w0 w' g bs Ab cb s1 A' c' := by
  have y33 : (d == 33) = false := by simp; omega
  have y34 : (d == 34) = false := by simp; omega
  have y110 : (d == 110) = false := by simp; omega
  have y111 : (d == 111) = false := by simp; omega
  have y124 : (d == 124) = false := by simp; omega
  have y125 : (d == 125) = false := by simp; omega
  have y126 : (d == 126) = false := by simp; omega
  have y36 : (d == 36) = false := by simp; omega
  have z2 : decide (d < 40) = false := decide_eq_false (by omega)
  have z3 : decide (44 ≤ d) = true := decide_eq_true hc
  clear hd
  have hi : 0 ≤ s.i ∧ s.i ≤ (bs.length : Int) := ⟨hk.1, hk.2.1⟩
  have HN := Aside0.mk hN
  have HK := Aside0.mk hk
  have HK1 := Aside0.mk (nextS_ok hk)
  rw [hN] at HK1
  have so1 : s1.out.length ≤ 1000000 := HK1.out.room hlen
  have HH := Aside0.mk hH
  obtain ⟨hc0, hc1, hc2, hc3, hc4, hc5, hc6, hc7, hc8, hf1, hf2, hf3, hf4, hf5, hf6, hf7, hf8⟩ := hH.facts
  clear hH
  clear hN hk
  go_enter Try.func50, Try.ntmps50
  go_wp2_with (first
    | (go_at_call 48; (with_reducible refine (reader_next bs Ab cb s Ao co g d 0 s1 HN.out hbs hlen hi w0 _ HH.out).mono ?_); rintro e w1 ⟨rfl, Ao1, co1, hn1⟩; have H1 := Aside0.mk hn1; clear hn1 HH hc0 hc1 hc2 hc3 hc4 hc5 hc6 hc7 hc8 hf1 hf2 hf3 hf4 hf5 hf6 hf7 hf8; obtain ⟨hc0, hc1, hc2, hc3, hc4, hc5, hc6, hc7, hc8, hf1, hf2, hf3, hf4, hf5, hf6, hf7, hf8⟩ := H1.out.facts))
  go_ret
  exact ⟨rfl, Ao1, co1, H1.out⟩
set_option maxRecDepth 100000 in
set_option maxHeartbeats 2000000 in
theorem reader_esc_set (bs : List Int) (Ab : Option Addr) (cb : Nat) (s : Rd) (Ao : Option Addr) (co g : Nat) (d : Int) (hc : 40 ≤ d) (hc2 : d < 44) (e3 : Int) (s3 : Rd) (hq : ∀ s1, nextS bs s = (d, 0, s1) → desigS bs s1 (d - 40) false = (e3, s3)) (s1 : Rd) (hN : nextS bs s = (d, 0, s1)) (hbs : ∀ x ∈ bs, 0 ≤ x ∧ x ≤ 255) (hlen : bs.length ≤ 100000) (hk : RdOk bs s) (w0 w : World) (hH : RH w0 w g bs Ab cb s Ao co) :
    Calls Try.prog 50 #[.pointer (some ⟨g, 0, none⟩)] w fun e w' => e = .returned (.int .i64 e3) ∧ ∃ A' c', RH w0 w' g bs Ab cb s3 A' c' := by
  have y33 : (d == 33) = false := by simp; omega
  have y34 : (d == 34) = false := by simp; omega
  have y110 : (d == 110) = false := by simp; omega
  have y111 : (d == 111) = false := by simp; omega
  have y124 : (d == 124) = false := by simp; omega
  have y125 : (d == 125) = false := by simp; omega
  have y126 : (d == 126) = false := by simp; omega
  have y36 : (d == 36) = false := by simp; omega
  have z2 : decide (d < 40) = false := decide_eq_false (by omega)
  have z3 : decide (44 ≤ d) = false := decide_eq_false (by omega)
  have HQ := Aside0.mk (hq s1 hN)
  clear hq
  have hi : 0 ≤ s.i ∧ s.i ≤ (bs.length : Int) := ⟨hk.1, hk.2.1⟩
  have HN := Aside0.mk hN
  have HK := Aside0.mk hk
  have HK1 := Aside0.mk (nextS_ok hk)
  rw [hN] at HK1
  have so1 : s1.out.length ≤ 1000000 := HK1.out.room hlen
  have HH := Aside0.mk hH
  obtain ⟨hc0, hc1, hc2, hc3, hc4, hc5, hc6, hc7, hc8, hf1, hf2, hf3, hf4, hf5, hf6, hf7, hf8⟩ := hH.facts
  clear hH
  clear hN hk
  go_enter Try.func50, Try.ntmps50
  go_wp2_with (first
    | (go_at_call 48; (with_reducible refine (reader_next bs Ab cb s Ao co g d 0 s1 HN.out hbs hlen hi w0 _ HH.out).mono ?_); rintro e w1 ⟨rfl, Ao1, co1, hn1⟩; have H1 := Aside0.mk hn1; clear hn1 HH hc0 hc1 hc2 hc3 hc4 hc5 hc6 hc7 hc8 hf1 hf2 hf3 hf4 hf5 hf6 hf7 hf8; obtain ⟨hc0, hc1, hc2, hc3, hc4, hc5, hc6, hc7, hc8, hf1, hf2, hf3, hf4, hf5, hf6, hf7, hf8⟩ := H1.out.facts)
    | (go_at_call 55; (with_reducible refine (reader_designates bs Ab cb s1 Ao1 co1 g (d - 40) false (by omega) (by omega) e3 s3 HQ.out hbs hlen HK1.out w0 _ H1.out).mono ?_); rintro e w3 ⟨rfl, Ao3, co3, hn3⟩; have H3 := Aside0.mk hn3; clear hn3 H1 hc0 hc1 hc2 hc3 hc4 hc5 hc6 hc7 hc8 hf1 hf2 hf3 hf4 hf5 hf6 hf7 hf8; obtain ⟨hc0, hc1, hc2, hc3, hc4, hc5, hc6, hc7, hc8, hf1, hf2, hf3, hf4, hf5, hf6, hf7, hf8⟩ := H3.out.facts))
  go_ret
  exact ⟨rfl, Ao3, co3, H3.out⟩
theorem reader_escapes (bs : List Int) (Ab : Option Addr) (cb : Nat) (s : Rd) (Ao : Option Addr) (co g : Nat) (e_ : Int) (s2 : Rd) (hq : escS bs s = (e_, s2)) (hbs : ∀ x ∈ bs, 0 ≤ x ∧ x ≤ 255) (hlen : bs.length ≤ 100000) (hk : RdOk bs s) (w0 w : World) (hH : RH w0 w g bs Ab cb s Ao co) :
    Calls Try.prog 50 #[.pointer (some ⟨g, 0, none⟩)] w fun e w' => e = .returned (.int .i64 e_) ∧ ∃ A' c', RH w0 w' g bs Ab cb s2 A' c' := by
  obtain ⟨⟨d, e1, s1⟩, hN⟩ : ∃ x, nextS bs s = x := ⟨_, rfl⟩
  have hk1 := nextS_ok hk
  unfold escS at hq
  rw [hN] at hq hk1
  simp only at hq hk1
  have fin : ∀ {a : Int} {b : Rd}, (a, b) = (e_, s2) → a = e_ ∧ b = s2 := fun h => by simpa only [Prod.mk.injEq] using h
  by_cases he : e1 ≠ 0
  · rw [if_pos he] at hq
    obtain ⟨rfl, rfl⟩ := fin hq
    exact reader_esc_short bs Ab cb s Ao co g d e1 he s1 hN hbs hlen hk w0 w hH
  rw [if_neg he] at hq
  obtain rfl : e1 = 0 := by omega
  by_cases c1 : d = 33
  · subst c1
    rw [if_pos rfl] at hq
    exact reader_esc_is33 bs Ab cb s Ao co g e_ s2 (fun t ht => by rw [hN] at ht; simp only [Prod.mk.injEq, true_and] at ht; rw [← ht]; exact hq) s1 hN hbs hlen hk w0 w hH
  rw [if_neg c1] at hq
  by_cases c2 : d = 34
  · subst c2
    rw [if_pos rfl] at hq
    exact reader_esc_is34 bs Ab cb s Ao co g e_ s2 (fun t ht => by rw [hN] at ht; simp only [Prod.mk.injEq, true_and] at ht; rw [← ht]; exact hq) s1 hN hbs hlen hk w0 w hH
  rw [if_neg c2] at hq
  by_cases c3 : d = 110 ∨ d = 111
  · rw [if_pos c3] at hq
    obtain ⟨rfl, rfl⟩ := fin hq
    rcases c3 with rfl | rfl
    · exact reader_esc_at110 bs Ab cb s Ao co g s1 hN hbs hlen hk w0 w hH
    · exact reader_esc_at111 bs Ab cb s Ao co g s1 hN hbs hlen hk w0 w hH
  rw [if_neg c3] at hq
  by_cases c4 : d = 124 ∨ d = 125 ∨ d = 126
  · rw [if_pos c4] at hq
    obtain ⟨rfl, rfl⟩ := fin hq
    rcases c4 with rfl | rfl | rfl
    · exact reader_esc_at124 bs Ab cb s Ao co g s1 hN hbs hlen hk w0 w hH
    · exact reader_esc_at125 bs Ab cb s Ao co g s1 hN hbs hlen hk w0 w hH
    · exact reader_esc_at126 bs Ab cb s Ao co g s1 hN hbs hlen hk w0 w hH
  rw [if_neg c4] at hq
  by_cases c5 : d = 36
  · subst c5
    rw [if_pos rfl] at hq
    obtain ⟨⟨d2, e2, s3⟩, hN2⟩ : ∃ x, nextS bs s1 = x := ⟨_, rfl⟩
    have hk2 := nextS_ok hk1
    rw [hN2] at hq hk2
    simp only at hq hk2
    have hN3 : ∀ t, nextS bs s = (36, 0, t) → nextS bs t = (d2, e2, s3) := fun t ht => by rw [hN] at ht; simp only [Prod.mk.injEq, true_and] at ht; rw [← ht]; exact hN2
    by_cases he2 : e2 ≠ 0
    · rw [if_pos he2] at hq
      obtain ⟨rfl, rfl⟩ := fin hq
      exact reader_esc_wide_short bs Ab cb s Ao co g d2 e2 he2 s3 hN3 s1 hN hbs hlen hk w0 w hH
    rw [if_neg he2] at hq
    obtain rfl : e2 = 0 := by omega
    by_cases c6 : d2 < 40 ∨ d2 ≥ 44
    · rw [if_pos c6] at hq
      obtain ⟨rfl, rfl⟩ := fin hq
      rcases c6 with c6 | c6
      · exact reader_esc_wide_low bs Ab cb s Ao co g d2 c6 s3 hN3 s1 hN hbs hlen hk w0 w hH
      · exact reader_esc_wide_high bs Ab cb s Ao co g d2 c6 s3 hN3 s1 hN hbs hlen hk w0 w hH
    · rw [if_neg c6] at hq
      exact reader_esc_wide_set bs Ab cb s Ao co g d2 (by omega) (by omega) e_ s2 s3 hN3 hq hk2 s1 hN hbs hlen hk w0 w hH
  rw [if_neg c5] at hq
  by_cases c6 : d < 40 ∨ d ≥ 44
  · rw [if_pos c6] at hq
    obtain ⟨rfl, rfl⟩ := fin hq
    rcases c6 with c6 | c6
    · exact reader_esc_low bs Ab cb s Ao co g d c6 ⟨c1, c2, c5⟩ s1 hN hbs hlen hk w0 w hH
    · exact reader_esc_high bs Ab cb s Ao co g d c6 ⟨fun h => c3 (.inl h), fun h => c3 (.inr h), fun h => c4 (.inl h), fun h => c4 (.inr (.inl h)), fun h => c4 (.inr (.inr h))⟩ s1 hN hbs hlen hk w0 w hH
  · rw [if_neg c6] at hq
    exact reader_esc_set bs Ab cb s Ao co g d (by omega) (by omega) e_ s2 (fun t ht => by rw [hN] at ht; simp only [Prod.mk.injEq, true_and] at ht; rw [← ht]; exact hq) s1 hN hbs hlen hk w0 w hH

def ctl2 : List Int := [32, 8, 10, 12, 13]
def oneS (bs : List Int) (s : Rd) : Int × Rd :=
  let c := (nextS bs s).1; let s1 := (nextS bs s).2.2
  if c ∈ ctl2 then (0, { s1 with out := s1.out ++ [⟨0, c⟩] })
  else if c = 14 ∨ c = 15 then (0, { s1 with left := 15 - c })
  else if c = 25 then singleS bs s1 2
  else if c = 29 then singleS bs s1 3
  else if c = 27 then escS bs s1
  else if c ≥ 128 then placeS bs s1 s1.right c
  else placeS bs s1 s1.left c
set_option maxRecDepth 100000 in
set_option maxHeartbeats 2000000 in
theorem reader_one_tok (bs : List Int) (Ab : Option Addr) (cb : Nat) (s : Rd) (Ao : Option Addr) (co g : Nat) (d e1 : Int) (hC : d ∈ ctl2) (s1 : Rd) (hN : nextS bs s = (d, e1, s1)) (hbs : ∀ x ∈ bs, 0 ≤ x ∧ x ≤ 255) (hlen : bs.length ≤ 100000) (hk : RdOk bs s) (w0 w : World) (hH : RH w0 w g bs Ab cb s Ao co) :
    Calls Try.prog 41 #[.pointer (some ⟨g, 0, none⟩)] w fun e w' => e = .returned (.int .i64 0) ∧ ∃ A' c', RH w0 w' g bs Ab cb { s1 with out := s1.out ++ [⟨0, d⟩] } A' c' := by
  have HC : Aside0 (slices_Contains_int_int.f 4000 ctl2 d = some true) := ⟨by rw [Contains_f _ _ _ (by decide) (by decide)]; simp [hC]⟩
  clear hC
  have hi : 0 ≤ s.i ∧ s.i ≤ (bs.length : Int) := ⟨hk.1, hk.2.1⟩
  have HN := Aside0.mk hN
  have HK := Aside0.mk hk
  have HK1 := Aside0.mk (nextS_ok hk)
  rw [hN] at HK1
  have so1 : s1.out.length ≤ 1000000 := HK1.out.room hlen
  have HH := Aside0.mk hH
  obtain ⟨hc0, hc1, hc2, hc3, hc4, hc5, hc6, hc7, hc8, hf1, hf2, hf3, hf4, hf5, hf6, hf7, hf8⟩ := hH.facts
  clear hH
  clear hN hk
  go_enter Try.func41, Try.ntmps41
  go_wp2_with (first
    | (go_at_call 48; (with_reducible refine (reader_next bs Ab cb s Ao co g d e1 s1 HN.out hbs hlen hi w0 _ HH.out).mono ?_); rintro e w1 ⟨rfl, Ao1, co1, hn1⟩; have H1 := Aside0.mk hn1; clear hn1 HH hc0 hc1 hc2 hc3 hc4 hc5 hc6 hc7 hc8 hf1 hf2 hf3 hf4 hf5 hf6 hf7 hf8; obtain ⟨hc0, hc1, hc2, hc3, hc4, hc5, hc6, hc7, hc8, hf1, hf2, hf3, hf4, hf5, hf6, hf7, hf8⟩ := H1.out.facts)
    | ((with_reducible refine gate_dst (N := 18) rfl ?_); refine Kd.R_lit (Kd.int .i64) (w0 := w1) w1.heap.size 3 ?hgL (N := 18) ?hdL (xs := ctl2) (inner := [.int .i64 32, .int .i64 8, .int .i64 10, .int .i64 12, .int .i64 13]) (ok := fun _ => True) (okp := fun _ => True) ?hrL ?hpL (fun _ hk => hk) trivial (Below.refl _ _) (Nat.le_refl _) (by decide) ?_; (case hdL => rfl); (case hgL => rfl); (case hrL => first | (go_simp; done) | (go_simp; rfl)); (case hpL => exact (Reps.one rfl (Reps.one rfl (Reps.one rfl (Reps.one rfl (Reps.one rfl (Reps.none _ _))))))); intro vL wL hoL hbL hgL hnewL; clear hgL hnewL; obtain ⟨AL, cL, eL⟩ := Kd.R_slice hoL; subst eL; have HOL := Aside0.mk hoL; have HL := Aside0.mk (H1.out.below hbL); clear hoL hbL H1 hc0 hc1 hc2 hc3 hc4 hc5 hc6 hc7 hc8 hf1 hf2 hf3 hf4 hf5 hf6 hf7 hf8; obtain ⟨hc0, hc1, hc2, hc3, hc4, hc5, hc6, hc7, hc8, hf1, hf2, hf3, hf4, hf5, hf6, hf7, hf8⟩ := HL.out.facts)
    | (go_at_call 33; (with_reducible refine (slices_Contains_int_int.calls 4000 _ _ ctl2 d true _ (Kd.R_reads' HOL.out).2.2 (Kd.R_reads' HOL.out).2.1 HC.out).mono ?_); rintro e w2 ⟨rfl, hd⟩; have H2 := Aside0.mk (HL.out.drawn hd); clear HL hd hc0 hc1 hc2 hc3 hc4 hc5 hc6 hc7 hc8 hf1 hf2 hf3 hf4 hf5 hf6 hf7 hf8; obtain ⟨hc0, hc1, hc2, hc3, hc4, hc5, hc6, hc7, hc8, hf1, hf2, hf3, hf4, hf5, hf6, hf7, hf8⟩ := H2.out.facts)
    | (at_builtin; refine Kd.R_append k74 (w0 := w0) w0.heap.size rfl (.tmp 25) (.tmp 28) 55 74 (.agg #[(.int .i64 0), (.int .i64 0)]) 16 rfl Try.underlying55 infoTok rfl (by decide) (by omega) _ s1.out (⟨0, d⟩ : S74) [.int .i64 (0), .int .i64 (d)] (fun _ => True) (fun _ => False) rfl rfl ?aP3 (fun _ hk => hk.elim) ?aF3 ?aO3 ?aB3 ?aS3 ?aL3 ?_))
  case aP3 => exact k74_mkM _ _ _ (⟨0, d⟩ : S74)
  first | (case aF3 => exact fun _ _ => trivial) | skip
  case aO3 => exact H2.out.2.2.2.1
  case aB3 => exact H2.out.2.2.2.2
  case aS3 => exact H2.out.2.2.2.2.size
  case aL3 => omega
  intro v3 w3 hR3 hBB3 hg3 hat3
  obtain ⟨A3, c3, ev3⟩ := Kd.R_slice hR3
  subst ev3
  have hblk3 := H2.out.stands hg3
  have H3 := Aside0.mk (H2.out.stored hg3 hR3 hBB3)
  clear hR3 hBB3 hg3 hat3
  clear hc0 hc1 hc2 hc3 hc4 hc5 hc6 hc7 hc8 hf1 hf2 hf3 hf4 hf5 hf6 hf7 hf8
  obtain ⟨zs3, HZ3⟩ : ∃ zs3, Aside0 (s1.out ++ [(⟨0, d⟩ : S74)] = zs3) := ⟨_, ⟨rfl⟩⟩
  rw [HZ3.out] at H3
  try rw [HZ3.out]
  have hf8 := blk_frozen hblk3 8
  have hc8 : w3.cell? ⟨g, 8, none⟩ = some (.slice Ao1 s1.out.length co1) := (blk_cell hblk3 8).trans rfl
  clear hblk3
  go_wp2
  go_ret
  exact ⟨rfl, A3, c3, by rw [HZ3.out]; exact H3.out⟩
set_option maxRecDepth 100000 in
set_option maxHeartbeats 2000000 in
theorem reader_one_at14 (bs : List Int) (Ab : Option Addr) (cb : Nat) (s : Rd) (Ao : Option Addr) (co g : Nat) (e1 : Int) (s1 : Rd) (hN : nextS bs s = (14, e1, s1)) (hbs : ∀ x ∈ bs, 0 ≤ x ∧ x ≤ 255) (hlen : bs.length ≤ 100000) (hk : RdOk bs s) (w0 w : World) (hH : RH w0 w g bs Ab cb s Ao co) :
    Calls Try.prog 41 #[.pointer (some ⟨g, 0, none⟩)] w fun e w' => e = .returned (.int .i64 0) ∧ ∃ A' c', RH w0 w' g bs Ab cb { s1 with left := 1 } A' c' := by
  have HC : Aside0 (slices_Contains_int_int.f 4000 ctl2 14 = some false) := ⟨by rw [Contains_f _ _ _ (by decide) (by decide)]; simp [ctl2]⟩
  have hi : 0 ≤ s.i ∧ s.i ≤ (bs.length : Int) := ⟨hk.1, hk.2.1⟩
  have HN := Aside0.mk hN
  have HK := Aside0.mk hk
  have HK1 := Aside0.mk (nextS_ok hk)
  rw [hN] at HK1
  have so1 : s1.out.length ≤ 1000000 := HK1.out.room hlen
  have HH := Aside0.mk hH
  obtain ⟨hc0, hc1, hc2, hc3, hc4, hc5, hc6, hc7, hc8, hf1, hf2, hf3, hf4, hf5, hf6, hf7, hf8⟩ := hH.facts
  clear hH
  clear hN hk
  go_enter Try.func41, Try.ntmps41
  go_wp2_with (first
    | (go_at_call 48; (with_reducible refine (reader_next bs Ab cb s Ao co g 14 e1 s1 HN.out hbs hlen hi w0 _ HH.out).mono ?_); rintro e w1 ⟨rfl, Ao1, co1, hn1⟩; have H1 := Aside0.mk hn1; clear hn1 HH hc0 hc1 hc2 hc3 hc4 hc5 hc6 hc7 hc8 hf1 hf2 hf3 hf4 hf5 hf6 hf7 hf8; obtain ⟨hc0, hc1, hc2, hc3, hc4, hc5, hc6, hc7, hc8, hf1, hf2, hf3, hf4, hf5, hf6, hf7, hf8⟩ := H1.out.facts)
    | ((with_reducible refine gate_dst (N := 18) rfl ?_); refine Kd.R_lit (Kd.int .i64) (w0 := w1) w1.heap.size 3 ?hgL (N := 18) ?hdL (xs := ctl2) (inner := [.int .i64 32, .int .i64 8, .int .i64 10, .int .i64 12, .int .i64 13]) (ok := fun _ => True) (okp := fun _ => True) ?hrL ?hpL (fun _ hk => hk) trivial (Below.refl _ _) (Nat.le_refl _) (by decide) ?_; (case hdL => rfl); (case hgL => rfl); (case hrL => first | (go_simp; done) | (go_simp; rfl)); (case hpL => exact (Reps.one rfl (Reps.one rfl (Reps.one rfl (Reps.one rfl (Reps.one rfl (Reps.none _ _))))))); intro vL wL hoL hbL hgL hnewL; clear hgL hnewL; obtain ⟨AL, cL, eL⟩ := Kd.R_slice hoL; subst eL; have HOL := Aside0.mk hoL; have HL := Aside0.mk (H1.out.below hbL); clear hoL hbL H1 hc0 hc1 hc2 hc3 hc4 hc5 hc6 hc7 hc8 hf1 hf2 hf3 hf4 hf5 hf6 hf7 hf8; obtain ⟨hc0, hc1, hc2, hc3, hc4, hc5, hc6, hc7, hc8, hf1, hf2, hf3, hf4, hf5, hf6, hf7, hf8⟩ := HL.out.facts)
    | (go_at_call 33; (with_reducible refine (slices_Contains_int_int.calls 4000 _ _ ctl2 14 false _ (Kd.R_reads' HOL.out).2.2 (Kd.R_reads' HOL.out).2.1 HC.out).mono ?_); rintro e w2 ⟨rfl, hd⟩; have H2 := Aside0.mk (HL.out.drawn hd); clear HL hd hc0 hc1 hc2 hc3 hc4 hc5 hc6 hc7 hc8 hf1 hf2 hf3 hf4 hf5 hf6 hf7 hf8; obtain ⟨hc0, hc1, hc2, hc3, hc4, hc5, hc6, hc7, hc8, hf1, hf2, hf3, hf4, hf5, hf6, hf7, hf8⟩ := H2.out.facts))
  go_ret
  exact ⟨rfl, Ao1, co1, H2.out.set 6 (.int .i64 1) { s1 with left := 1 } rfl rfl⟩
set_option maxRecDepth 100000 in
set_option maxHeartbeats 2000000 in
theorem reader_one_at15 (bs : List Int) (Ab : Option Addr) (cb : Nat) (s : Rd) (Ao : Option Addr) (co g : Nat) (e1 : Int) (s1 : Rd) (hN : nextS bs s = (15, e1, s1)) (hbs : ∀ x ∈ bs, 0 ≤ x ∧ x ≤ 255) (hlen : bs.length ≤ 100000) (hk : RdOk bs s) (w0 w : World) (hH : RH w0 w g bs Ab cb s Ao co) :
    Calls Try.prog 41 #[.pointer (some ⟨g, 0, none⟩)] w fun e w' => e = .returned (.int .i64 0) ∧ ∃ A' c', RH w0 w' g bs Ab cb { s1 with left := 0 } A' c' := by
  have HC : Aside0 (slices_Contains_int_int.f 4000 ctl2 15 = some false) := ⟨by rw [Contains_f _ _ _ (by decide) (by decide)]; simp [ctl2]⟩
  have hi : 0 ≤ s.i ∧ s.i ≤ (bs.length : Int) := ⟨hk.1, hk.2.1⟩
  have HN := Aside0.mk hN
  have HK := Aside0.mk hk
  have HK1 := Aside0.mk (nextS_ok hk)
  rw [hN] at HK1
  have so1 : s1.out.length ≤ 1000000 := HK1.out.room hlen
  have HH := Aside0.mk hH
  obtain ⟨hc0, hc1, hc2, hc3, hc4, hc5, hc6, hc7, hc8, hf1, hf2, hf3, hf4, hf5, hf6, hf7, hf8⟩ := hH.facts
  clear hH
  clear hN hk
  go_enter Try.func41, Try.ntmps41
  go_wp2_with (first
    | (go_at_call 48; (with_reducible refine (reader_next bs Ab cb s Ao co g 15 e1 s1 HN.out hbs hlen hi w0 _ HH.out).mono ?_); rintro e w1 ⟨rfl, Ao1, co1, hn1⟩; have H1 := Aside0.mk hn1; clear hn1 HH hc0 hc1 hc2 hc3 hc4 hc5 hc6 hc7 hc8 hf1 hf2 hf3 hf4 hf5 hf6 hf7 hf8; obtain ⟨hc0, hc1, hc2, hc3, hc4, hc5, hc6, hc7, hc8, hf1, hf2, hf3, hf4, hf5, hf6, hf7, hf8⟩ := H1.out.facts)
    | ((with_reducible refine gate_dst (N := 18) rfl ?_); refine Kd.R_lit (Kd.int .i64) (w0 := w1) w1.heap.size 3 ?hgL (N := 18) ?hdL (xs := ctl2) (inner := [.int .i64 32, .int .i64 8, .int .i64 10, .int .i64 12, .int .i64 13]) (ok := fun _ => True) (okp := fun _ => True) ?hrL ?hpL (fun _ hk => hk) trivial (Below.refl _ _) (Nat.le_refl _) (by decide) ?_; (case hdL => rfl); (case hgL => rfl); (case hrL => first | (go_simp; done) | (go_simp; rfl)); (case hpL => exact (Reps.one rfl (Reps.one rfl (Reps.one rfl (Reps.one rfl (Reps.one rfl (Reps.none _ _))))))); intro vL wL hoL hbL hgL hnewL; clear hgL hnewL; obtain ⟨AL, cL, eL⟩ := Kd.R_slice hoL; subst eL; have HOL := Aside0.mk hoL; have HL := Aside0.mk (H1.out.below hbL); clear hoL hbL H1 hc0 hc1 hc2 hc3 hc4 hc5 hc6 hc7 hc8 hf1 hf2 hf3 hf4 hf5 hf6 hf7 hf8; obtain ⟨hc0, hc1, hc2, hc3, hc4, hc5, hc6, hc7, hc8, hf1, hf2, hf3, hf4, hf5, hf6, hf7, hf8⟩ := HL.out.facts)
    | (go_at_call 33; (with_reducible refine (slices_Contains_int_int.calls 4000 _ _ ctl2 15 false _ (Kd.R_reads' HOL.out).2.2 (Kd.R_reads' HOL.out).2.1 HC.out).mono ?_); rintro e w2 ⟨rfl, hd⟩; have H2 := Aside0.mk (HL.out.drawn hd); clear HL hd hc0 hc1 hc2 hc3 hc4 hc5 hc6 hc7 hc8 hf1 hf2 hf3 hf4 hf5 hf6 hf7 hf8; obtain ⟨hc0, hc1, hc2, hc3, hc4, hc5, hc6, hc7, hc8, hf1, hf2, hf3, hf4, hf5, hf6, hf7, hf8⟩ := H2.out.facts))
  go_ret
  exact ⟨rfl, Ao1, co1, H2.out.set 6 (.int .i64 0) { s1 with left := 0 } rfl rfl⟩
set_option maxRecDepth 100000 in
set_option maxHeartbeats 2000000 in
theorem reader_one_at25 (bs : List Int) (Ab : Option Addr) (cb : Nat) (s : Rd) (Ao : Option Addr) (co g : Nat) (e1 e2 : Int) (s2 : Rd) (hq : ∀ s1, nextS bs s = (25, e1, s1) → singleS bs s1 2 = (e2, s2)) (s1 : Rd) (hN : nextS bs s = (25, e1, s1)) (hbs : ∀ x ∈ bs, 0 ≤ x ∧ x ≤ 255) (hlen : bs.length ≤ 100000) (hk : RdOk bs s) (w0 w : World) (hH : RH w0 w g bs Ab cb s Ao co) :
    Calls Try.prog 41 #[.pointer (some ⟨g, 0, none⟩)] w fun e w' => e = .returned (.int .i64 e2) ∧ ∃ A' c', RH w0 w' g bs Ab cb s2 A' c' := by
  have HC : Aside0 (slices_Contains_int_int.f 4000 ctl2 25 = some false) := ⟨by rw [Contains_f _ _ _ (by decide) (by decide)]; simp [ctl2]⟩
  have HQ := Aside0.mk (hq s1 hN)
  clear hq
  have hi : 0 ≤ s.i ∧ s.i ≤ (bs.length : Int) := ⟨hk.1, hk.2.1⟩
  have HN := Aside0.mk hN
  have HK := Aside0.mk hk
  have HK1 := Aside0.mk (nextS_ok hk)
  rw [hN] at HK1
  have so1 : s1.out.length ≤ 1000000 := HK1.out.room hlen
  have HH := Aside0.mk hH
  obtain ⟨hc0, hc1, hc2, hc3, hc4, hc5, hc6, hc7, hc8, hf1, hf2, hf3, hf4, hf5, hf6, hf7, hf8⟩ := hH.facts
  clear hH
  clear hN hk
  go_enter Try.func41, Try.ntmps41
  go_wp2_with (first
    | (go_at_call 48; (with_reducible refine (reader_next bs Ab cb s Ao co g 25 e1 s1 HN.out hbs hlen hi w0 _ HH.out).mono ?_); rintro e w1 ⟨rfl, Ao1, co1, hn1⟩; have H1 := Aside0.mk hn1; clear hn1 HH hc0 hc1 hc2 hc3 hc4 hc5 hc6 hc7 hc8 hf1 hf2 hf3 hf4 hf5 hf6 hf7 hf8; obtain ⟨hc0, hc1, hc2, hc3, hc4, hc5, hc6, hc7, hc8, hf1, hf2, hf3, hf4, hf5, hf6, hf7, hf8⟩ := H1.out.facts)
    | ((with_reducible refine gate_dst (N := 18) rfl ?_); refine Kd.R_lit (Kd.int .i64) (w0 := w1) w1.heap.size 3 ?hgL (N := 18) ?hdL (xs := ctl2) (inner := [.int .i64 32, .int .i64 8, .int .i64 10, .int .i64 12, .int .i64 13]) (ok := fun _ => True) (okp := fun _ => True) ?hrL ?hpL (fun _ hk => hk) trivial (Below.refl _ _) (Nat.le_refl _) (by decide) ?_; (case hdL => rfl); (case hgL => rfl); (case hrL => first | (go_simp; done) | (go_simp; rfl)); (case hpL => exact (Reps.one rfl (Reps.one rfl (Reps.one rfl (Reps.one rfl (Reps.one rfl (Reps.none _ _))))))); intro vL wL hoL hbL hgL hnewL; clear hgL hnewL; obtain ⟨AL, cL, eL⟩ := Kd.R_slice hoL; subst eL; have HOL := Aside0.mk hoL; have HL := Aside0.mk (H1.out.below hbL); clear hoL hbL H1 hc0 hc1 hc2 hc3 hc4 hc5 hc6 hc7 hc8 hf1 hf2 hf3 hf4 hf5 hf6 hf7 hf8; obtain ⟨hc0, hc1, hc2, hc3, hc4, hc5, hc6, hc7, hc8, hf1, hf2, hf3, hf4, hf5, hf6, hf7, hf8⟩ := HL.out.facts)
    | (go_at_call 33; (with_reducible refine (slices_Contains_int_int.calls 4000 _ _ ctl2 25 false _ (Kd.R_reads' HOL.out).2.2 (Kd.R_reads' HOL.out).2.1 HC.out).mono ?_); rintro e w2 ⟨rfl, hd⟩; have H2 := Aside0.mk (HL.out.drawn hd); clear HL hd hc0 hc1 hc2 hc3 hc4 hc5 hc6 hc7 hc8 hf1 hf2 hf3 hf4 hf5 hf6 hf7 hf8; obtain ⟨hc0, hc1, hc2, hc3, hc4, hc5, hc6, hc7, hc8, hf1, hf2, hf3, hf4, hf5, hf6, hf7, hf8⟩ := H2.out.facts)
    | (go_at_call 49; (with_reducible refine (reader_single bs Ab cb s1 Ao1 co1 g 2 (by decide) (by decide) e2 s2 HQ.out hbs hlen HK1.out w0 _ H2.out).mono ?_); rintro e w3 ⟨rfl, Ao3, co3, hn3⟩; have H3 := Aside0.mk hn3; clear hn3 H2 hc0 hc1 hc2 hc3 hc4 hc5 hc6 hc7 hc8 hf1 hf2 hf3 hf4 hf5 hf6 hf7 hf8; obtain ⟨hc0, hc1, hc2, hc3, hc4, hc5, hc6, hc7, hc8, hf1, hf2, hf3, hf4, hf5, hf6, hf7, hf8⟩ := H3.out.facts))
  go_ret
  exact ⟨rfl, Ao3, co3, H3.out⟩
set_option maxRecDepth 100000 in
set_option maxHeartbeats 2000000 in
theorem reader_one_at29 (bs : List Int) (Ab : Option Addr) (cb : Nat) (s : Rd) (Ao : Option Addr) (co g : Nat) (e1 e2 : Int) (s2 : Rd) (hq : ∀ s1, nextS bs s = (29, e1, s1) → singleS bs s1 3 = (e2, s2)) (s1 : Rd) (hN : nextS bs s = (29, e1, s1)) (hbs : ∀ x ∈ bs, 0 ≤ x ∧ x ≤ 255) (hlen : bs.length ≤ 100000) (hk : RdOk bs s) (w0 w : World) (hH : RH w0 w g bs Ab cb s Ao co) :
    Calls Try.prog 41 #[.pointer (some ⟨g, 0, none⟩)] w fun e w' => e = .returned (.int .i64 e2) ∧ ∃ A' c', RH w0 w' g bs Ab cb s2 A' c' := by
  have HC : Aside0 (slices_Contains_int_int.f 4000 ctl2 29 = some false) := ⟨by rw [Contains_f _ _ _ (by decide) (by decide)]; simp [ctl2]⟩
  have HQ := Aside0.mk (hq s1 hN)
  clear hq
  have hi : 0 ≤ s.i ∧ s.i ≤ (bs.length : Int) := ⟨hk.1, hk.2.1⟩
  have HN := Aside0.mk hN
  have HK := Aside0.mk hk
  have HK1 := Aside0.mk (nextS_ok hk)
  rw [hN] at HK1
  have so1 : s1.out.length ≤ 1000000 := HK1.out.room hlen
  have HH := Aside0.mk hH
  obtain ⟨hc0, hc1, hc2, hc3, hc4, hc5, hc6, hc7, hc8, hf1, hf2, hf3, hf4, hf5, hf6, hf7, hf8⟩ := hH.facts
  clear hH
  clear hN hk
  go_enter Try.func41, Try.ntmps41
  go_wp2_with (first
    | (go_at_call 48; (with_reducible refine (reader_next bs Ab cb s Ao co g 29 e1 s1 HN.out hbs hlen hi w0 _ HH.out).mono ?_); rintro e w1 ⟨rfl, Ao1, co1, hn1⟩; have H1 := Aside0.mk hn1; clear hn1 HH hc0 hc1 hc2 hc3 hc4 hc5 hc6 hc7 hc8 hf1 hf2 hf3 hf4 hf5 hf6 hf7 hf8; obtain ⟨hc0, hc1, hc2, hc3, hc4, hc5, hc6, hc7, hc8, hf1, hf2, hf3, hf4, hf5, hf6, hf7, hf8⟩ := H1.out.facts)
    | ((with_reducible refine gate_dst (N := 18) rfl ?_); refine Kd.R_lit (Kd.int .i64) (w0 := w1) w1.heap.size 3 ?hgL (N := 18) ?hdL (xs := ctl2) (inner := [.int .i64 32, .int .i64 8, .int .i64 10, .int .i64 12, .int .i64 13]) (ok := fun _ => True) (okp := fun _ => True) ?hrL ?hpL (fun _ hk => hk) trivial (Below.refl _ _) (Nat.le_refl _) (by decide) ?_; (case hdL => rfl); (case hgL => rfl); (case hrL => first | (go_simp; done) | (go_simp; rfl)); (case hpL => exact (Reps.one rfl (Reps.one rfl (Reps.one rfl (Reps.one rfl (Reps.one rfl (Reps.none _ _))))))); intro vL wL hoL hbL hgL hnewL; clear hgL hnewL; obtain ⟨AL, cL, eL⟩ := Kd.R_slice hoL; subst eL; have HOL := Aside0.mk hoL; have HL := Aside0.mk (H1.out.below hbL); clear hoL hbL H1 hc0 hc1 hc2 hc3 hc4 hc5 hc6 hc7 hc8 hf1 hf2 hf3 hf4 hf5 hf6 hf7 hf8; obtain ⟨hc0, hc1, hc2, hc3, hc4, hc5, hc6, hc7, hc8, hf1, hf2, hf3, hf4, hf5, hf6, hf7, hf8⟩ := HL.out.facts)
    | (go_at_call 33; (with_reducible refine (slices_Contains_int_int.calls 4000 _ _ ctl2 29 false _ (Kd.R_reads' HOL.out).2.2 (Kd.R_reads' HOL.out).2.1 HC.out).mono ?_); rintro e w2 ⟨rfl, hd⟩; have H2 := Aside0.mk (HL.out.drawn hd); clear HL hd hc0 hc1 hc2 hc3 hc4 hc5 hc6 hc7 hc8 hf1 hf2 hf3 hf4 hf5 hf6 hf7 hf8; obtain ⟨hc0, hc1, hc2, hc3, hc4, hc5, hc6, hc7, hc8, hf1, hf2, hf3, hf4, hf5, hf6, hf7, hf8⟩ := H2.out.facts)
    | (go_at_call 49; (with_reducible refine (reader_single bs Ab cb s1 Ao1 co1 g 3 (by decide) (by decide) e2 s2 HQ.out hbs hlen HK1.out w0 _ H2.out).mono ?_); rintro e w3 ⟨rfl, Ao3, co3, hn3⟩; have H3 := Aside0.mk hn3; clear hn3 H2 hc0 hc1 hc2 hc3 hc4 hc5 hc6 hc7 hc8 hf1 hf2 hf3 hf4 hf5 hf6 hf7 hf8; obtain ⟨hc0, hc1, hc2, hc3, hc4, hc5, hc6, hc7, hc8, hf1, hf2, hf3, hf4, hf5, hf6, hf7, hf8⟩ := H3.out.facts))
  go_ret
  exact ⟨rfl, Ao3, co3, H3.out⟩
set_option maxRecDepth 100000 in
set_option maxHeartbeats 2000000 in
theorem reader_one_esc (bs : List Int) (Ab : Option Addr) (cb : Nat) (s : Rd) (Ao : Option Addr) (co g : Nat) (e1 e2 : Int) (s2 : Rd) (hq : ∀ s1, nextS bs s = (27, e1, s1) → escS bs s1 = (e2, s2)) (s1 : Rd) (hN : nextS bs s = (27, e1, s1)) (hbs : ∀ x ∈ bs, 0 ≤ x ∧ x ≤ 255) (hlen : bs.length ≤ 100000) (hk : RdOk bs s) (w0 w : World) (hH : RH w0 w g bs Ab cb s Ao co) :
    Calls Try.prog 41 #[.pointer (some ⟨g, 0, none⟩)] w fun e w' => e = .returned (.int .i64 e2) ∧ ∃ A' c', RH w0 w' g bs Ab cb s2 A' c' := by
  have HC : Aside0 (slices_Contains_int_int.f 4000 ctl2 27 = some false) := ⟨by rw [Contains_f _ _ _ (by decide) (by decide)]; simp [ctl2]⟩
  have HQ := Aside0.mk (hq s1 hN)
  clear hq
  have hi : 0 ≤ s.i ∧ s.i ≤ (bs.length : Int) := ⟨hk.1, hk.2.1⟩
  have HN := Aside0.mk hN
  have HK := Aside0.mk hk
  have HK1 := Aside0.mk (nextS_ok hk)
  rw [hN] at HK1
  have so1 : s1.out.length ≤ 1000000 := HK1.out.room hlen
  have HH := Aside0.mk hH
  obtain ⟨hc0, hc1, hc2, hc3, hc4, hc5, hc6, hc7, hc8, hf1, hf2, hf3, hf4, hf5, hf6, hf7, hf8⟩ := hH.facts
  clear hH
  clear hN hk
  go_enter Try.func41, Try.ntmps41
  go_wp2_with (first
    | (go_at_call 48; (with_reducible refine (reader_next bs Ab cb s Ao co g 27 e1 s1 HN.out hbs hlen hi w0 _ HH.out).mono ?_); rintro e w1 ⟨rfl, Ao1, co1, hn1⟩; have H1 := Aside0.mk hn1; clear hn1 HH hc0 hc1 hc2 hc3 hc4 hc5 hc6 hc7 hc8 hf1 hf2 hf3 hf4 hf5 hf6 hf7 hf8; obtain ⟨hc0, hc1, hc2, hc3, hc4, hc5, hc6, hc7, hc8, hf1, hf2, hf3, hf4, hf5, hf6, hf7, hf8⟩ := H1.out.facts)
    | ((with_reducible refine gate_dst (N := 18) rfl ?_); refine Kd.R_lit (Kd.int .i64) (w0 := w1) w1.heap.size 3 ?hgL (N := 18) ?hdL (xs := ctl2) (inner := [.int .i64 32, .int .i64 8, .int .i64 10, .int .i64 12, .int .i64 13]) (ok := fun _ => True) (okp := fun _ => True) ?hrL ?hpL (fun _ hk => hk) trivial (Below.refl _ _) (Nat.le_refl _) (by decide) ?_; (case hdL => rfl); (case hgL => rfl); (case hrL => first | (go_simp; done) | (go_simp; rfl)); (case hpL => exact (Reps.one rfl (Reps.one rfl (Reps.one rfl (Reps.one rfl (Reps.one rfl (Reps.none _ _))))))); intro vL wL hoL hbL hgL hnewL; clear hgL hnewL; obtain ⟨AL, cL, eL⟩ := Kd.R_slice hoL; subst eL; have HOL := Aside0.mk hoL; have HL := Aside0.mk (H1.out.below hbL); clear hoL hbL H1 hc0 hc1 hc2 hc3 hc4 hc5 hc6 hc7 hc8 hf1 hf2 hf3 hf4 hf5 hf6 hf7 hf8; obtain ⟨hc0, hc1, hc2, hc3, hc4, hc5, hc6, hc7, hc8, hf1, hf2, hf3, hf4, hf5, hf6, hf7, hf8⟩ := HL.out.facts)
    | (go_at_call 33; (with_reducible refine (slices_Contains_int_int.calls 4000 _ _ ctl2 27 false _ (Kd.R_reads' HOL.out).2.2 (Kd.R_reads' HOL.out).2.1 HC.out).mono ?_); rintro e w2 ⟨rfl, hd⟩; have H2 := Aside0.mk (HL.out.drawn hd); clear HL hd hc0 hc1 hc2 hc3 hc4 hc5 hc6 hc7 hc8 hf1 hf2 hf3 hf4 hf5 hf6 hf7 hf8; obtain ⟨hc0, hc1, hc2, hc3, hc4, hc5, hc6, hc7, hc8, hf1, hf2, hf3, hf4, hf5, hf6, hf7, hf8⟩ := H2.out.facts)
    | (go_at_call 50; (with_reducible refine (reader_escapes bs Ab cb s1 Ao1 co1 g e2 s2 HQ.out hbs hlen HK1.out w0 _ H2.out).mono ?_); rintro e w3 ⟨rfl, Ao3, co3, hn3⟩; have H3 := Aside0.mk hn3; clear hn3 H2 hc0 hc1 hc2 hc3 hc4 hc5 hc6 hc7 hc8 hf1 hf2 hf3 hf4 hf5 hf6 hf7 hf8; obtain ⟨hc0, hc1, hc2, hc3, hc4, hc5, hc6, hc7, hc8, hf1, hf2, hf3, hf4, hf5, hf6, hf7, hf8⟩ := H3.out.facts))
  go_ret
  exact ⟨rfl, Ao3, co3, H3.out⟩
set_option maxRecDepth 100000 in
set_option maxHeartbeats 2000000 in
theorem reader_one_right (bs : List Int) (Ab : Option Addr) (cb : Nat) (s : Rd) (Ao : Option Addr) (co g : Nat) (d e1 : Int) (hC : ¬ d ∈ ctl2) (hd : d ≠ 14 ∧ d ≠ 15 ∧ d ≠ 25 ∧ d ≠ 29 ∧ d ≠ 27) (hc : d ≥ 128) (e2 : Int) (s2 : Rd) (hq : ∀ s1, nextS bs s = (d, e1, s1) → placeS bs s1 s1.right d = (e2, s2)) (s1 : Rd) (hN : nextS bs s = (d, e1, s1)) (hbs : ∀ x ∈ bs, 0 ≤ x ∧ x ≤ 255) (hlen : bs.length ≤ 100000) (hk : RdOk bs s) (w0 w : World) (hH : RH w0 w g bs Ab cb s Ao co) :
    Calls Try.prog 41 #[.pointer (some ⟨g, 0, none⟩)] w fun e w' => e = .returned (.int .i64 e2) ∧ ∃ A' c', RH w0 w' g bs Ab cb s2 A' c' := by
  have HC : Aside0 (slices_Contains_int_int.f 4000 ctl2 d = some false) := ⟨by rw [Contains_f _ _ _ (by decide) (by decide)]; simp [hC]⟩
  clear hC
  have y14 : (d == 14) = false := by simp; omega
  have y15 : (d == 15) = false := by simp; omega
  have y25 : (d == 25) = false := by simp; omega
  have y29 : (d == 29) = false := by simp; omega
  have y27 : (d == 27) = false := by simp; omega
  clear hd
  have z1 : decide (128 ≤ d) = true := decide_eq_true hc
  have HQ := Aside0.mk (hq s1 hN)
  clear hq
  have hi : 0 ≤ s.i ∧ s.i ≤ (bs.length : Int) := ⟨hk.1, hk.2.1⟩
  have HN := Aside0.mk hN
  have HK := Aside0.mk hk
  have HK1 := Aside0.mk (nextS_ok hk)
  rw [hN] at HK1
  have so1 : s1.out.length ≤ 1000000 := HK1.out.room hlen
  have HH := Aside0.mk hH
  obtain ⟨hc0, hc1, hc2, hc3, hc4, hc5, hc6, hc7, hc8, hf1, hf2, hf3, hf4, hf5, hf6, hf7, hf8⟩ := hH.facts
  clear hH
  clear hN hk
  go_enter Try.func41, Try.ntmps41
  go_wp2_with (first
    | (go_at_call 48; (with_reducible refine (reader_next bs Ab cb s Ao co g d e1 s1 HN.out hbs hlen hi w0 _ HH.out).mono ?_); rintro e w1 ⟨rfl, Ao1, co1, hn1⟩; have H1 := Aside0.mk hn1; clear hn1 HH hc0 hc1 hc2 hc3 hc4 hc5 hc6 hc7 hc8 hf1 hf2 hf3 hf4 hf5 hf6 hf7 hf8; obtain ⟨hc0, hc1, hc2, hc3, hc4, hc5, hc6, hc7, hc8, hf1, hf2, hf3, hf4, hf5, hf6, hf7, hf8⟩ := H1.out.facts)
    | ((with_reducible refine gate_dst (N := 18) rfl ?_); refine Kd.R_lit (Kd.int .i64) (w0 := w1) w1.heap.size 3 ?hgL (N := 18) ?hdL (xs := ctl2) (inner := [.int .i64 32, .int .i64 8, .int .i64 10, .int .i64 12, .int .i64 13]) (ok := fun _ => True) (okp := fun _ => True) ?hrL ?hpL (fun _ hk => hk) trivial (Below.refl _ _) (Nat.le_refl _) (by decide) ?_; (case hdL => rfl); (case hgL => rfl); (case hrL => first | (go_simp; done) | (go_simp; rfl)); (case hpL => exact (Reps.one rfl (Reps.one rfl (Reps.one rfl (Reps.one rfl (Reps.one rfl (Reps.none _ _))))))); intro vL wL hoL hbL hgL hnewL; clear hgL hnewL; obtain ⟨AL, cL, eL⟩ := Kd.R_slice hoL; subst eL; have HOL := Aside0.mk hoL; have HL := Aside0.mk (H1.out.below hbL); clear hoL hbL H1 hc0 hc1 hc2 hc3 hc4 hc5 hc6 hc7 hc8 hf1 hf2 hf3 hf4 hf5 hf6 hf7 hf8; obtain ⟨hc0, hc1, hc2, hc3, hc4, hc5, hc6, hc7, hc8, hf1, hf2, hf3, hf4, hf5, hf6, hf7, hf8⟩ := HL.out.facts)
    | (go_at_call 33; (with_reducible refine (slices_Contains_int_int.calls 4000 _ _ ctl2 d false _ (Kd.R_reads' HOL.out).2.2 (Kd.R_reads' HOL.out).2.1 HC.out).mono ?_); rintro e w2 ⟨rfl, hd⟩; have H2 := Aside0.mk (HL.out.drawn hd); clear HL hd hc0 hc1 hc2 hc3 hc4 hc5 hc6 hc7 hc8 hf1 hf2 hf3 hf4 hf5 hf6 hf7 hf8; obtain ⟨hc0, hc1, hc2, hc3, hc4, hc5, hc6, hc7, hc8, hf1, hf2, hf3, hf4, hf5, hf6, hf7, hf8⟩ := H2.out.facts)
    | (go_at_call 51; (with_reducible refine (reader_place bs Ab cb s1 Ao1 co1 g s1.right d HK1.out.right.1 HK1.out.right.2 e2 s2 HQ.out hbs hlen HK1.out w0 _ H2.out).mono ?_); rintro e w3 ⟨rfl, Ao3, co3, hn3⟩; have H3 := Aside0.mk hn3; clear hn3 H2 hc0 hc1 hc2 hc3 hc4 hc5 hc6 hc7 hc8 hf1 hf2 hf3 hf4 hf5 hf6 hf7 hf8; obtain ⟨hc0, hc1, hc2, hc3, hc4, hc5, hc6, hc7, hc8, hf1, hf2, hf3, hf4, hf5, hf6, hf7, hf8⟩ := H3.out.facts))
  go_ret
  exact ⟨rfl, Ao3, co3, H3.out⟩
set_option maxRecDepth 100000 in
set_option maxHeartbeats 2000000 in
theorem reader_one_left (bs : List Int) (Ab : Option Addr) (cb : Nat) (s : Rd) (Ao : Option Addr) (co g : Nat) (d e1 : Int) (hC : ¬ d ∈ ctl2) (hd : d ≠ 14 ∧ d ≠ 15 ∧ d ≠ 25 ∧ d ≠ 29 ∧ d ≠ 27) (hc : d < 128) (e2 : Int) (s2 : Rd) (hq : ∀ s1, nextS bs s = (d, e1, s1) → placeS bs s1 s1.left d = (e2, s2)) (s1 : Rd) (hN : nextS bs s = (d, e1, s1)) (hbs : ∀ x ∈ bs, 0 ≤ x ∧ x ≤ 255) (hlen : bs.length ≤ 100000) (hk : RdOk bs s) (w0 w : World) (hH : RH w0 w g bs Ab cb s Ao co) :
    Calls Try.prog 41 #[.pointer (some ⟨g, 0, none⟩)] w fun e w' => e = .returned (.int .i64 e2) ∧ ∃ A' c', RH w0 w' g bs Ab cb s2 A' c' := by
  have HC : Aside0 (slices_Contains_int_int.f 4000 ctl2 d = some false) := ⟨by rw [Contains_f _ _ _ (by decide) (by decide)]; simp [hC]⟩
  clear hC
  have y14 : (d == 14) = false := by simp; omega
  have y15 : (d == 15) = false := by simp; omega
  have y25 : (d == 25) = false := by simp; omega
  have y29 : (d == 29) = false := by simp; omega
  have y27 : (d == 27) = false := by simp; omega
  clear hd
  have z1 : decide (128 ≤ d) = false := decide_eq_false (by omega)
  have HQ := Aside0.mk (hq s1 hN)
  clear hq
  have hi : 0 ≤ s.i ∧ s.i ≤ (bs.length : Int) := ⟨hk.1, hk.2.1⟩
  have HN := Aside0.mk hN
  have HK := Aside0.mk hk
  have HK1 := Aside0.mk (nextS_ok hk)
  rw [hN] at HK1
  have so1 : s1.out.length ≤ 1000000 := HK1.out.room hlen
  have HH := Aside0.mk hH
  obtain ⟨hc0, hc1, hc2, hc3, hc4, hc5, hc6, hc7, hc8, hf1, hf2, hf3, hf4, hf5, hf6, hf7, hf8⟩ := hH.facts
  clear hH
  clear hN hk
  go_enter Try.func41, Try.ntmps41
  go_wp2_with (first
    | (go_at_call 48; (with_reducible refine (reader_next bs Ab cb s Ao co g d e1 s1 HN.out hbs hlen hi w0 _ HH.out).mono ?_); rintro e w1 ⟨rfl, Ao1, co1, hn1⟩; have H1 := Aside0.mk hn1; clear hn1 HH hc0 hc1 hc2 hc3 hc4 hc5 hc6 hc7 hc8 hf1 hf2 hf3 hf4 hf5 hf6 hf7 hf8; obtain ⟨hc0, hc1, hc2, hc3, hc4, hc5, hc6, hc7, hc8, hf1, hf2, hf3, hf4, hf5, hf6, hf7, hf8⟩ := H1.out.facts)
    | ((with_reducible refine gate_dst (N := 18) rfl ?_); refine Kd.R_lit (Kd.int .i64) (w0 := w1) w1.heap.size 3 ?hgL (N := 18) ?hdL (xs := ctl2) (inner := [.int .i64 32, .int .i64 8, .int .i64 10, .int .i64 12, .int .i64 13]) (ok := fun _ => True) (okp := fun _ => True) ?hrL ?hpL (fun _ hk => hk) trivial (Below.refl _ _) (Nat.le_refl _) (by decide) ?_; (case hdL => rfl); (case hgL => rfl); (case hrL => first | (go_simp; done) | (go_simp; rfl)); (case hpL => exact (Reps.one rfl (Reps.one rfl (Reps.one rfl (Reps.one rfl (Reps.one rfl (Reps.none _ _))))))); intro vL wL hoL hbL hgL hnewL; clear hgL hnewL; obtain ⟨AL, cL, eL⟩ := Kd.R_slice hoL; subst eL; have HOL := Aside0.mk hoL; have HL := Aside0.mk (H1.out.below hbL); clear hoL hbL H1 hc0 hc1 hc2 hc3 hc4 hc5 hc6 hc7 hc8 hf1 hf2 hf3 hf4 hf5 hf6 hf7 hf8; obtain ⟨hc0, hc1, hc2, hc3, hc4, hc5, hc6, hc7, hc8, hf1, hf2, hf3, hf4, hf5, hf6, hf7, hf8⟩ := HL.out.facts)
    | (go_at_call 33; (with_reducible refine (slices_Contains_int_int.calls 4000 _ _ ctl2 d false _ (Kd.R_reads' HOL.out).2.2 (Kd.R_reads' HOL.out).2.1 HC.out).mono ?_); rintro e w2 ⟨rfl, hd⟩; have H2 := Aside0.mk (HL.out.drawn hd); clear HL hd hc0 hc1 hc2 hc3 hc4 hc5 hc6 hc7 hc8 hf1 hf2 hf3 hf4 hf5 hf6 hf7 hf8; obtain ⟨hc0, hc1, hc2, hc3, hc4, hc5, hc6, hc7, hc8, hf1, hf2, hf3, hf4, hf5, hf6, hf7, hf8⟩ := H2.out.facts)
    | (go_at_call 51; (with_reducible refine (reader_place bs Ab cb s1 Ao1 co1 g s1.left d HK1.out.left.1 HK1.out.left.2 e2 s2 HQ.out hbs hlen HK1.out w0 _ H2.out).mono ?_); rintro e w3 ⟨rfl, Ao3, co3, hn3⟩; have H3 := Aside0.mk hn3; clear hn3 H2 hc0 hc1 hc2 hc3 hc4 hc5 hc6 hc7 hc8 hf1 hf2 hf3 hf4 hf5 hf6 hf7 hf8; obtain ⟨hc0, hc1, hc2, hc3, hc4, hc5, hc6, hc7, hc8, hf1, hf2, hf3, hf4, hf5, hf6, hf7, hf8⟩ := H3.out.facts))
  go_ret
  exact ⟨rfl, Ao3, co3, H3.out⟩
theorem reader_one (bs : List Int) (Ab : Option Addr) (cb : Nat) (s : Rd) (Ao : Option Addr) (co g : Nat) (e_ : Int) (s2 : Rd) (hq : oneS bs s = (e_, s2)) (hbs : ∀ x ∈ bs, 0 ≤ x ∧ x ≤ 255) (hlen : bs.length ≤ 100000) (hk : RdOk bs s) (w0 w : World) (hH : RH w0 w g bs Ab cb s Ao co) :
    Calls Try.prog 41 #[.pointer (some ⟨g, 0, none⟩)] w fun e w' => e = .returned (.int .i64 e_) ∧ ∃ A' c', RH w0 w' g bs Ab cb s2 A' c' := by
  obtain ⟨⟨d, e1, s1⟩, hN⟩ : ∃ x, nextS bs s = x := ⟨_, rfl⟩
  unfold oneS at hq
  rw [hN] at hq
  simp only at hq
  have fin : ∀ {a : Int} {b : Rd}, (a, b) = (e_, s2) → a = e_ ∧ b = s2 := fun h => by simpa only [Prod.mk.injEq] using h
  have same : ∀ {c : Int} {t : Rd}, nextS bs s = (c, e1, t) → s1 = t := fun ht => by rw [hN] at ht; simp only [Prod.mk.injEq] at ht; exact ht.2.2
  by_cases hC : d ∈ ctl2
  · rw [if_pos hC] at hq
    obtain ⟨rfl, rfl⟩ := fin hq
    exact reader_one_tok bs Ab cb s Ao co g d e1 hC s1 hN hbs hlen hk w0 w hH
  rw [if_neg hC] at hq
  by_cases c1 : d = 14 ∨ d = 15
  · rw [if_pos c1] at hq
    obtain ⟨rfl, rfl⟩ := fin hq
    rcases c1 with rfl | rfl
    · exact reader_one_at14 bs Ab cb s Ao co g e1 s1 hN hbs hlen hk w0 w hH
    · exact reader_one_at15 bs Ab cb s Ao co g e1 s1 hN hbs hlen hk w0 w hH
  rw [if_neg c1] at hq
  by_cases c2 : d = 25
  · subst c2
    rw [if_pos rfl] at hq
    exact reader_one_at25 bs Ab cb s Ao co g e1 e_ s2 (fun t ht => by rw [← same ht]; exact hq) s1 hN hbs hlen hk w0 w hH
  rw [if_neg c2] at hq
  by_cases c3 : d = 29
  · subst c3
    rw [if_pos rfl] at hq
    exact reader_one_at29 bs Ab cb s Ao co g e1 e_ s2 (fun t ht => by rw [← same ht]; exact hq) s1 hN hbs hlen hk w0 w hH
  rw [if_neg c3] at hq
  by_cases c4 : d = 27
  · subst c4
    rw [if_pos rfl] at hq
    exact reader_one_esc bs Ab cb s Ao co g e1 e_ s2 (fun t ht => by rw [← same ht]; exact hq) s1 hN hbs hlen hk w0 w hH
  rw [if_neg c4] at hq
  by_cases c5 : d ≥ 128
  · rw [if_pos c5] at hq
    exact reader_one_right bs Ab cb s Ao co g d e1 hC ⟨fun h => c1 (.inl h), fun h => c1 (.inr h), c2, c3, c4⟩ c5 e_ s2 (fun t ht => by rw [← same ht]; exact hq) s1 hN hbs hlen hk w0 w hH
  · rw [if_neg c5] at hq
    exact reader_one_left bs Ab cb s Ao co g d e1 hC ⟨fun h => c1 (.inl h), fun h => c1 (.inr h), c2, c3, c4⟩ (by omega) e_ s2 (fun t ht => by rw [← same ht]; exact hq) s1 hN hbs hlen hk w0 w hH

theorem placeS_ok {bs : List Int} {s : Rd} {gi c : Int} (h : RdOk bs s) (hr : (s.out.length : Int) + 1 ≤ s.i) : RdOk bs (placeS bs s gi c).2 ∧ s.i ≤ (placeS bs s gi c).2.i := by
  have hn := nextS_ok h
  have hi : s.i ≤ (nextS bs s).2.2.i := by
    unfold nextS
    split
    · exact Int.le_refl _
    · show s.i ≤ s.i + 1
      omega
  unfold placeS
  split
  · split
    · exact ⟨h, Int.le_refl _⟩
    · split
      · split
        · rename_i he
          have hr2 := nextS_room h he
          split
          · refine ⟨?_, hi⟩
            obtain ⟨h1, h2, h3, h4, h5, h6, h7⟩ := hn
            exact ⟨h1, h2, by show (((nextS bs s).2.2.out ++ [_]).length : Int) ≤ (nextS bs s).2.2.i; rw [List.length_append]; simp only [List.length_cons, List.length_nil]; omega, h4, h5, h6, h7⟩
          · exact ⟨hn, hi⟩
        · exact ⟨hn, hi⟩
      · refine ⟨?_, Int.le_refl _⟩
        obtain ⟨h1, h2, h3, h4, h5, h6, h7⟩ := h
        exact ⟨h1, h2, by show ((s.out ++ [_]).length : Int) ≤ s.i; rw [List.length_append]; simp only [List.length_cons, List.length_nil]; omega, h4, h5, h6, h7⟩
  · exact ⟨h, Int.le_refl _⟩
theorem nextS_grows {bs : List Int} {s : Rd} : s.i ≤ (nextS bs s).2.2.i := by
  unfold nextS
  split
  · exact Int.le_refl _
  · show s.i ≤ s.i + 1
    omega
theorem singleS_ok {bs : List Int} {s : Rd} {gi : Int} (h : RdOk bs s) : RdOk bs (singleS bs s gi).2 ∧ s.i ≤ (singleS bs s gi).2.i := by
  unfold singleS
  split
  · rename_i he
    have hr2 := nextS_room h he
    have := placeS_ok (gi := gi) (c := (nextS bs s).1) (nextS_ok h) hr2
    exact ⟨this.1, Int.le_trans nextS_grows this.2⟩
  · exact ⟨nextS_ok h, nextS_grows⟩
theorem gSet_ok {bs : List Int} {s : Rd} {gi v : Int} (h : RdOk bs s) : RdOk bs (gSet s gi v) ∧ (gSet s gi v).i = s.i := by
  unfold gSet
  split
  · exact ⟨h, rfl⟩
  · split
    · exact ⟨h, rfl⟩
    · split
      · exact ⟨h, rfl⟩
      · exact ⟨h, rfl⟩
theorem desigS_ok {bs : List Int} {s : Rd} {gi : Int} {wide : Bool} (h : RdOk bs s) : RdOk bs (desigS bs s gi wide).2 ∧ s.i ≤ (desigS bs s gi wide).2.i := by
  unfold desigS
  split
  · split
    · have := gSet_ok (gi := gi) (v := (byL (nextS bs s).1 wide setsL).1) (nextS_ok h)
      exact ⟨this.1, by rw [this.2]; exact nextS_grows⟩
    · exact ⟨nextS_ok h, nextS_grows⟩
  · exact ⟨nextS_ok h, nextS_grows⟩
theorem isS_ok {bs : List Int} {s : Rd} {want : Int} (h : RdOk bs s) : RdOk bs (isS bs s want).2 ∧ s.i ≤ (isS bs s want).2.i := ⟨nextS_ok h, nextS_grows⟩
theorem escS_ok {bs : List Int} {s : Rd} (h : RdOk bs s) : RdOk bs (escS bs s).2 ∧ s.i ≤ (escS bs s).2.i := by
  have h1 := nextS_ok h
  have g1 := nextS_grows (bs := bs) (s := s)
  unfold escS
  dsimp only
  split
  · exact ⟨h1, g1⟩
  · split
    · exact ⟨(isS_ok h1).1, Int.le_trans g1 (isS_ok h1).2⟩
    · split
      · exact ⟨(isS_ok h1).1, Int.le_trans g1 (isS_ok h1).2⟩
      · split
        · rename_i c3
          obtain ⟨a1, a2, a3, a4, a5, a6, a7⟩ := h1
          exact ⟨⟨a1, a2, a3, by show 0 ≤ (nextS bs s).1 - 108; omega, by show (nextS bs s).1 - 108 ≤ 3; omega, a6, a7⟩, g1⟩
        · split
          · rename_i c3
            obtain ⟨a1, a2, a3, a4, a5, a6, a7⟩ := h1
            exact ⟨⟨a1, a2, a3, a4, a5, by show 0 ≤ 127 - (nextS bs s).1; omega, by show 127 - (nextS bs s).1 ≤ 3; omega⟩, g1⟩
          · split
            · have h2 := nextS_ok h1
              have g2 := nextS_grows (bs := bs) (s := (nextS bs s).2.2)
              split
              · exact ⟨h2, Int.le_trans g1 g2⟩
              · split
                · exact ⟨h2, Int.le_trans g1 g2⟩
                · exact ⟨(desigS_ok h2).1, Int.le_trans (Int.le_trans g1 g2) (desigS_ok h2).2⟩
            · split
              · exact ⟨h1, g1⟩
              · exact ⟨(desigS_ok h1).1, Int.le_trans g1 (desigS_ok h1).2⟩
/-- Where there is a byte, a step goes on. -/
theorem oneS_ok {bs : List Int} {s : Rd} (h : RdOk bs s) (hlt : s.i < (bs.length : Int)) : RdOk bs (oneS bs s).2 ∧ s.i + 1 ≤ (oneS bs s).2.i := by
  have he : (nextS bs s).2.1 = 0 := by
    unfold nextS
    rw [if_neg (by omega)]
  have g1 : s.i + 1 ≤ (nextS bs s).2.2.i := by
    unfold nextS
    rw [if_neg (by omega)]
    exact Int.le_refl _
  have h1 := nextS_ok h
  have hr := nextS_room h he
  unfold oneS
  dsimp only
  split
  · refine ⟨?_, g1⟩
    obtain ⟨a1, a2, a3, a4, a5, a6, a7⟩ := h1
    exact ⟨a1, a2, by show (((nextS bs s).2.2.out ++ [_]).length : Int) ≤ (nextS bs s).2.2.i; rw [List.length_append]; simp only [List.length_cons, List.length_nil]; omega, a4, a5, a6, a7⟩
  · split
    · rename_i c3
      obtain ⟨a1, a2, a3, a4, a5, a6, a7⟩ := h1
      exact ⟨⟨a1, a2, a3, by show 0 ≤ 15 - (nextS bs s).1; omega, by show 15 - (nextS bs s).1 ≤ 3; omega, a6, a7⟩, g1⟩
    · split
      · exact ⟨(singleS_ok h1).1, Int.le_trans g1 (singleS_ok h1).2⟩
      · split
        · exact ⟨(singleS_ok h1).1, Int.le_trans g1 (singleS_ok h1).2⟩
        · split
          · exact ⟨(escS_ok h1).1, Int.le_trans g1 (escS_ok h1).2⟩
          · split
            · exact ⟨(placeS_ok h1 hr).1, Int.le_trans g1 (placeS_ok h1 hr).2⟩
            · exact ⟨(placeS_ok h1 hr).1, Int.le_trans g1 (placeS_ok h1 hr).2⟩
def tokS (bs : List Int) : Nat → Rd → Option (List S74 × Int × Int)
  | 0, _ => none
  | n + 1, s => if s.i < (bs.length : Int) then (if (oneS bs s).1 = 0 then tokS bs n (oneS bs s).2 else some ([], s.i, (oneS bs s).1)) else some (s.out, 0, 0)
def rd0 : Rd := ⟨0, 102, 0, 103, 0, 0, 2, []⟩
def shift_Tokens.f (bs : List Int) : Option (List S74 × Int × Int) := if bs.all (fun x => decide (0 ≤ x ∧ x ≤ 255)) = true ∧ bs.length ≤ 100000 then tokS bs (bs.length + 1) rd0 else none
theorem RH.start (w : World) (bs : List Int) (Ab : Option Addr) (cb : Nat) (hr : Kd.C (Kd.int .u8) w Ab bs.length bs) : RH w (w.alloc (.cells #[.slice Ab bs.length cb, .int .i64 0, .int .i64 102, .int .i64 0, .int .i64 103, .int .i64 0, .int .i64 0, .int .i64 2, .slice none 0 0] 71)) w.heap.size bs Ab cb rd0 none 0 :=
  ⟨heap_alloc_new w _, Nat.le_refl _, hr, Kd.R_nil _ _ _ _ _, (Below.refl _ _).alloc (Nat.le_refl _) _⟩
set_option maxRecDepth 100000 in
set_option maxHeartbeats 2000000 in
theorem shift_Tokens.calls (A0 : Option Addr) (c0 : Nat) (l0 : List Int) (r1 : List S74) (r2 : Int) (r3 : Int) (w : World) (hr0 : Kd.C (Kd.int .u8) w A0 l0.length l0) (hc0 : l0.length ≤ c0) (h : shift_Tokens.f l0 = some (r1, r2, r3)) :
    Calls Try.prog 26 #[.slice A0 l0.length c0] w fun e w' => ∃ v0_ : Value, e = .returned (.tuple #[v0_, .int .i64 r2, .int .i64 r3]) ∧ Kd.R k74 74 w' w.heap.size (fun _ => True) v0_ r1 ∧ Below w.heap.size w w' := by
  have hg : l0.all (fun x => decide (0 ≤ x ∧ x ≤ 255)) = true ∧ l0.length ≤ 100000 := Classical.byContradiction (fun hn => by rw [shift_Tokens.f, if_neg hn] at h; cases h)
  have hlen := hg.2
  have HB := Aside0.mk (fun x hx => of_decide_eq_true (List.all_eq_true.1 hg.1 x hx) : ∀ x ∈ l0, 0 ≤ x ∧ x ≤ 255)
  have HE : Aside0 (tokS l0 (l0.length + 1) rd0 = some (r1, r2, r3)) := ⟨by rw [shift_Tokens.f, if_pos hg] at h; exact h⟩
  have HH := Aside0.mk (RH.start w l0 A0 c0 hr0)
  have HK : Aside0 (RdOk l0 rd0) := ⟨by show 0 ≤ (0 : Int) ∧ (0 : Int) ≤ _ ∧ (0 : Int) ≤ 0 ∧ (0 : Int) ≤ 0 ∧ (0 : Int) ≤ 3 ∧ (0 : Int) ≤ 2 ∧ (2 : Int) ≤ 3; omega⟩
  clear h hr0 hg
  go_enter Try.func26, Try.ntmps26
  go_wp2
  go_loopg [3] (l0.length + 1) (fun n v3 wr => ∃ (s : Rd) (A : Option Addr) (c : Nat), Aside0 (tokS l0 n s = some (r1, r2, r3)) ∧ Aside0 (RdOk l0 s) ∧ Aside0 (RH w wr w.heap.size l0 A0 c0 s A c))
  case atStart => exact ⟨rd0, none, 0, HE, HK, HH⟩
  case round =>
    clear HE HK HH
    obtain ⟨s, A, c, HE, HK, HH⟩ := hrel
    cases gk with
    | zero => exact absurd HE.out (by simp [tokS])
    | succ n =>
      obtain ⟨hc0, hc1, hc2, hc3, hc4, hc5, hc6, hc7, hc8, hf1, hf2, hf3, hf4, hf5, hf6, hf7, hf8⟩ := HH.out.facts
      have HB2 := HB
      by_cases hlt : s.i < (l0.length : Int)
      · have z1 : decide (s.i < (l0.length : Int)) = true := decide_eq_true hlt
        obtain ⟨⟨e2, s2⟩, hq⟩ : ∃ x, oneS l0 s = x := ⟨_, rfl⟩
        have HQ := Aside0.mk hq
        have HK2 := Aside0.mk (oneS_ok HK.out hlt).1
        rw [hq] at HK2
        have HE2 := HE.out
        rw [tokS, if_pos hlt, hq] at HE2
        clear HE hq
        by_cases he : e2 = 0
        · subst he
          rw [if_pos rfl] at HE2
          have HE3 := Aside0.mk HE2
          clear HE2
          go_wp2_with (first
            | (go_at_call 41; (with_reducible refine (reader_one l0 A0 c0 s A c w.heap.size 0 s2 HQ.out HB.out hlen HK.out w _ HH.out).mono ?_); rintro e w1 ⟨rfl, A1, c1, hn1⟩; have H1 := Aside0.mk hn1; clear hn1 HH hc0 hc1 hc2 hc3 hc4 hc5 hc6 hc7 hc8 hf1 hf2 hf3 hf4 hf5 hf6 hf7 hf8))
          go_roundg n
          case measure => omega
          case rel => exact ⟨s2, A1, c1, HE3, HK2, H1⟩
        · rw [if_neg he] at HE2
          have HE3 : Aside0 (r1 = [] ∧ r2 = s.i ∧ r3 = e2) := ⟨by have := Option.some.inj HE2; simp only [Prod.mk.injEq] at this; exact ⟨this.1.symm, this.2.1.symm, this.2.2.symm⟩⟩
          clear HE2
          have z2 : (e2 != 0) = true := by simp [he]
          clear he
          go_wp2_with (first
            | (go_at_call 41; (with_reducible refine (reader_one l0 A0 c0 s A c w.heap.size e2 s2 HQ.out HB.out hlen HK.out w _ HH.out).mono ?_); rintro e w1 ⟨rfl, A1, c1, hn1⟩; have H1 := Aside0.mk hn1; clear hn1 HH hc0 hc1 hc2 hc3 hc4 hc5 hc6 hc7 hc8 hf1 hf2 hf3 hf4 hf5 hf6 hf7 hf8))
          go_ret3
          obtain ⟨rfl, rfl, rfl⟩ := HE3.out
          exact ⟨_, rfl, Kd.R_nil _ _ _ _ _, H1.out.2.2.2.2⟩
      · have z1 : decide (s.i < (l0.length : Int)) = false := decide_eq_false hlt
        have HE3 : Aside0 (r1 = s.out ∧ r2 = 0 ∧ r3 = 0) := ⟨by have := HE.out; rw [tokS, if_neg hlt] at this; have := Option.some.inj this; simp only [Prod.mk.injEq] at this; exact ⟨this.1.symm, this.2.1.symm, this.2.2.symm⟩⟩
        clear HE hlt
        go_wp2
        go_ret3
        obtain ⟨rfl, rfl, rfl⟩ := HE3.out
        exact ⟨_, rfl, HH.out.2.2.2.1, HH.out.2.2.2.2⟩
end Go.Proofs.Ytgcdfchchphpjaa.M
