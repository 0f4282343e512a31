/- Proved here, by hand: api.Codes hands back, in new memory, the list codesL of its entries. -/
import Derived.Test.YtgcdfchchphpjaaM0
import Derived.Test.YtgcdfchchphpjaaHRunes
import Derived.OneCell
namespace Go.Proofs.Ytgcdfchchphpjaa.M
set_option linter.unusedVariables false
set_option linter.unusedSimpArgs false
open Go.RowKit Go.Proofs.YtgcdfchchphpjaaW.PrintWords Go.Proofs.YtgcdfchchphpjaaW.PrintLast Go.Proofs.YtgcdfchchphpjaaW.PrintMore

theorem infoCode : (Try.prog.info? 38).map (fun i => (i.zero, i.size, i.bytes)) = some (some (.agg #[(.int .i64 0), (.int .i64 0), (.int .i64 0)]), 3, 24) := by kernel_rfl

/-- The variable l: its block B holds a slice that the call owns. -/
structure Held (W : World) (B : Nat) (xs : List S38) (A : Option Addr) (c : Nat) : Prop where
  blk : W.heap[B]? = some (.cells #[.slice A xs.length c] 35 (0, 0))
  row : Kd.R k38 38 W (B + 1) (fun _ => True) (.slice A xs.length c) xs
theorem Held.below {W W1 : World} {B : Nat} {xs : List S38} {A : Option Addr} {c : Nat} (h : Held W B xs A c) (hb : Below W.heap.size W W1) : Held W1 B xs A c :=
  ⟨(hb.block B (lt_of_block h.blk)).trans h.blk, Kd.R_below h.row hb⟩
theorem Held.start (w : World) : Held (w.alloc (.cells #[.slice none 0 0] 35)) w.heap.size [] none 0 := ⟨heap_alloc_new w _, Kd.R_nil _ _ _ _ _⟩
/-- What an append and the store behind it leave. -/
theorem Held.stored {W w1 : World} {B : Nat} {xs ys : List S38} {A A1 : Option Addr} {c c1 : Nat} (h : Held W B xs A c) (hg : W.grownBy w1 (Value.slice A xs.length c).ownBlock)
    (hR : Kd.R k38 38 w1 (B + 1) (fun _ => True) (.slice A1 ys.length c1) ys) : Held (w1.setCell ⟨B, 0, none⟩ (.slice A1 ys.length c1)) B ys A1 c1 := by
  have hne : some B ≠ (Value.slice A xs.length c).ownBlock := fun e => by have := own_base h.row.2.choose_spec.1 _ e.symm; omega
  have hb : w1.heap[B]? = some (.cells #[.slice A xs.length c] 35 (0, 0)) := (hg.block B (lt_of_block h.blk) hne).trans h.blk
  exact ⟨one_setCell hb, Kd.R_mono (Kd.R_far (p := ⟨B, 0, none⟩) (Kd.R_bound hR) (fun k hk => by have := hk.2.1; show k ≠ B; omega) _) (fun _ _ => trivial)⟩
theorem Held.cellIn {W w1 : World} {B : Nat} {xs : List S38} {A : Option Addr} {c : Nat} (h : Held W B xs A c) (hg : W.grownBy w1 (Value.slice A xs.length c).ownBlock) :
    w1.cell? ⟨B, 0, none⟩ = some (.slice A xs.length c) ∧ w1.frozen? ⟨B, 0, none⟩ = false ∧ w1.heap[B]? = some (.cells #[.slice A xs.length c] 35 (0, 0)) := by
  have hne : some B ≠ (Value.slice A xs.length c).ownBlock := fun e => by have := own_base h.row.2.choose_spec.1 _ e.symm; omega
  have hb := (hg.block B (lt_of_block h.blk) hne).trans h.blk
  exact ⟨cell_of_one hb, free_of_one hb, hb⟩
theorem Held.keeps {w W w1 : World} {B : Nat} {xs : List S38} {A : Option Addr} {c : Nat} (h : Held W B xs A c) (hB : w.heap.size ≤ B) (hw : Below w.heap.size w W) (hg : W.grownBy w1 (Value.slice A xs.length c).ownBlock) (v : Value) :
    Below w.heap.size w (w1.setCell ⟨B, 0, none⟩ v) :=
  (hw.grown hg hw.size (fun k hk => by have := own_base h.row.2.choose_spec.1 _ hk; omega)).setCell (p := ⟨B, 0, none⟩) hB v

def putL (set from_ : Int) : List Int → Nat → List S38
  | [], _ => []
  | c :: t, i => if c = 32 then putL set from_ t (i + 1) else ⟨set, from_ + (i : Int), c⟩ :: putL set from_ t (i + 1)
theorem putL_len (set from_ : Int) : ∀ (l : List Int) (i : Nat), (putL set from_ l i).length ≤ l.length
  | [], _ => Nat.le_refl _
  | c :: t, i => by
    unfold putL
    have := putL_len set from_ t (i + 1)
    split <;> simp <;> omega

set_option maxRecDepth 100000 in
set_option maxHeartbeats 2000000 in
theorem put_any (set from_ : Int) (s : ByteArray) (l : List Int) (hl : api_runes.f s = some l) (hl2 : l.length ≤ 100000) (hf : 0 ≤ from_ ∧ from_ ≤ 1000000) (B : Nat) (xs : List S38) (hx : xs.length ≤ 100000) (A : Option Addr) (c : Nat) (w0 w : World) (hB : w0.heap.size ≤ B) (hw : Below w0.heap.size w0 w) (hH : Held w B xs A c) :
    Calls Try.prog 28 #[.int .i64 set, .int .i64 from_, .string s, .pointer (some ⟨B, 0, none⟩)] w fun e w' => e = .returned (.tuple #[]) ∧ (∃ A' c', Held w' B (xs ++ putL set from_ l 0) A' c') ∧ Below w0.heap.size w0 w' := by
  have HL := Aside0.mk hl
  have HH := Aside0.mk hH
  have HW := Aside0.mk hw
  clear hl hH hw
  go_enter Try.func28, Try.ntmps28
  go_wp2_with (first | (go_at_call 29; (with_reducible refine (api_runes.calls s l _ HL.out).mono ?_); rintro e w1 ⟨v1, rfl, ho, hb⟩; have HO := Aside0.mk ho; have HB2 := Aside0.mk hb; clear ho hb; obtain ⟨Ar, cr, er⟩ := Kd.R_slice HO.out; subst er))
  have HR := Aside0.mk HO.out
  have HH1 := Aside0.mk (HH.out.below HB2.out)
  have hB1 : Below w0.heap.size w0 w1 := HW.out.trans (HB2.out.mono HW.out.size)
  have HW1 := Aside0.mk hB1
  clear hB1 HO HH HW HB2
  go_loopw [12] (fun v wr => ∃ (k : Nat) (ys : List S38) (Ay : Option Addr) (cy : Nat), v = .int .i64 k ∧ k ≤ l.length ∧ ys.length ≤ 100000 + k ∧ Aside0 (ys ++ putL set from_ (l.drop k) k = xs ++ putL set from_ l 0) ∧ Aside0 (Held wr B ys Ay cy) ∧ Aside0 (Below w0.heap.size w0 wr) ∧ Aside0 (Kd.R (Kd.int .i64) 3 wr w.heap.size (fun _ => True) (.slice Ar l.length cr) l)) (fun v _ => l.length - (intOf v).toNat)
  case atStart => exact ⟨0, xs, A, c, rfl, Nat.zero_le _, by omega, ⟨rfl⟩, HH1, HW1, HR⟩
  case round =>
    clear HR HH1 HW1
    obtain ⟨k, ys, Ay, cy, rfl, hk, hy, HE, HH, HW, HR⟩ := hrel
    by_cases hlt : k < l.length
    · obtain ⟨ad, e, hx⟩ := Kd.at_int (Kd.R_reads' HR.out).2.2 (k : Int) (by omega) (by omega)
      subst e
      have e2 : rd l (k : Int) = l[k] := by simp [rd, List.getD_eq_getElem?_getD, hlt]
      rw [Int.toNat_natCast, e2] at hx
      have HE2 : Aside0 (ys ++ putL set from_ (l[k] :: l.drop (k + 1)) k = xs ++ putL set from_ l 0) := ⟨by rw [← List.drop_eq_getElem_cons hlt]; exact HE.out⟩
      clear HE e2
      generalize l[k] = ch at *
      have hcell := cell_of_one HH.out.blk
      have hfree := free_of_one HH.out.blk
      have hBlt := lt_of_block HH.out.blk
      by_cases h32 : ch = 32
      · have cb : (ch != 32) = false := by simp [h32]
        have HE3 : Aside0 (ys ++ putL set from_ (l.drop (k + 1)) (k + 1) = xs ++ putL set from_ l 0) := ⟨by have := HE2.out; rw [putL, if_pos h32] at this; exact this⟩
        clear h32 HE2
        go_wp2
        go_roundw
        case rel => exact ⟨k + 1, ys, Ay, cy, by go_num, by omega, by omega, HE3, HH, HW, HR⟩
        case measure => simp [intOf]; omega
      · have cb : (ch != 32) = true := by simp [h32]
        have HE3 : Aside0 ((ys ++ [⟨set, from_ + (k : Int), ch⟩]) ++ putL set from_ (l.drop (k + 1)) (k + 1) = xs ++ putL set from_ l 0) := ⟨by have := HE2.out; rw [putL, if_neg h32] at this; rw [List.append_assoc]; exact this⟩
        clear h32 HE2
        go_wp2_with (first
          | (at_builtin; refine Kd.R_append k38 (w0 := wr) (B + 1) rfl (.tmp 19) (.tmp 26) 35 38 (.agg #[(.int .i64 0), (.int .i64 0), (.int .i64 0)]) 24 rfl Try.underlying35 infoCode rfl (by decide) (by omega) _ ys (⟨set, from_ + (k : Int), ch⟩ : S38) [.int .i64 set, .int .i64 (from_ + (k : Int)), .int .i64 ch] (fun _ => True) (fun _ => False) rfl rfl ?aP (fun _ hk => hk.elim) ?aF ?aO ?aB ?aS ?aL ?_))
        case aP => exact k38_mkM _ _ _ (⟨set, from_ + (k : Int), ch⟩ : S38)
        case aF => exact fun _ _ => trivial
        case aO => exact HH.out.row
        case aB => exact Below.refl _ _
        case aS => exact hBlt
        case aL => omega
        intro v1 w2 hR hBB hg hat
        obtain ⟨A1, c1, ev⟩ := Kd.R_slice hR
        subst ev
        obtain ⟨hcell2, hfree2, hblk2⟩ := HH.out.cellIn hg
        have HH2 := Aside0.mk (HH.out.stored hg hR)
        have HW2 := Aside0.mk (HH.out.keeps hB HW.out hg (.slice A1 (ys ++ [(⟨set, from_ + (k : Int), ch⟩ : S38)]).length c1))
        have HR2 := Aside0.mk (Kd.R_set (Kd.R_over' HR.out (Kd.R_typed HH.out.row) (by decide) hg) hblk2 (by decide) 0 (.slice A1 (ys ++ [(⟨set, from_ + (k : Int), ch⟩ : S38)]).length c1))
        clear hR hBB hg hat hblk2 hcell hfree HH HW HR hBlt
        have hlen2 : (ys ++ [(⟨set, from_ + (k : Int), ch⟩ : S38)]).length ≤ 100000 + (k + 1) := by simp; omega
        generalize ys ++ [(⟨set, from_ + (k : Int), ch⟩ : S38)] = zs at *
        go_wp2
        go_roundw
        case rel => exact ⟨k + 1, zs, A1, c1, by go_num, by omega, hlen2, HE3, HH2, HW2, HR2⟩
        case measure => simp [intOf]; omega
    · have HE2 : Aside0 (ys = xs ++ putL set from_ l 0) := ⟨by have := HE.out; rw [List.drop_eq_nil_of_le (by omega)] at this; simpa [putL] using this⟩
      clear HE
      go_wp2
      first | go_end0 | ((try simp only [Exit.inBlock, Exit.then]); refine bodyPost_ret (results_none rfl _ _ _) rfl ?_)
      exact ⟨rfl, ⟨Ay, cy, by rw [← HE2.out]; exact HH.out⟩, HW.out⟩
/-! ### api.Codes itself -/
def putS (set from_ : Int) (s : ByteArray) : List S38 := putL set from_ (runesFrom s s.size 0) 0
theorem put_S (set from_ : Int) (s : ByteArray) (hs : s.size ≤ 1000000 ∧ (runesFrom s s.size 0).length ≤ 100) (hf : 0 ≤ from_ ∧ from_ ≤ 1000000) (B : Nat) (xs : List S38) (hx : xs.length ≤ 100000) (A : Option Addr) (c : Nat) (w0 w : World) (hB : w0.heap.size ≤ B) (hw : Below w0.heap.size w0 w) (hH : Held w B xs A c) :
    Calls Try.prog 28 #[.int .i64 set, .int .i64 from_, .string s, .pointer (some ⟨B, 0, none⟩)] w fun e w' => e = .returned (.tuple #[]) ∧ (∃ ys A' c', ys = xs ++ putS set from_ s ∧ ys.length ≤ xs.length + 100 ∧ Held w' B ys A' c') ∧ Below w0.heap.size w0 w' := by
  have h := put_any set from_ s (runesFrom s s.size 0) (by simp [api_runes.f, hs.1]) (by omega) hf B xs hx A c w0 w hB hw hH
  refine h.mono ?_
  rintro e w' ⟨he, ⟨A', c', hh⟩, hb⟩
  refine ⟨he, ⟨_, A', c', rfl, ?_, hh⟩, hb⟩
  have := putL_len set from_ (runesFrom s s.size 0) 0
  simp only [List.length_append, putS]
  omega

/-- What a round of the first loop appends. -/
def codesOf (b : Int) : List S38 :=
  ⟨6, b, b⟩ :: (if b = 36 then [⟨102, b, 164⟩] else if b = 92 then [] else if b = 94 then [] else if b = 96 then [] else if 123 ≤ b ∧ ¬ b = 124 then [] else [⟨102, b, b⟩])
def codesFrom (b : Int) : Nat → List S38
  | 0 => []
  | n + 1 => codesOf b ++ codesFrom (b + 1) n
def kanaFrom (p q i : Int) : Nat → List S38
  | 0 => []
  | n + 1 => ⟨87, p + i, q + i⟩ :: kanaFrom p q (i + 1) n
theorem kanaFrom_zero (p q i : Int) : kanaFrom p q i 0 = [] := rfl

def codesAll : List S38 := [⟨6, 33, 33⟩, ⟨102, 33, 33⟩, ⟨6, 34, 34⟩, ⟨102, 34, 34⟩, ⟨6, 35, 35⟩, ⟨102, 35, 35⟩, ⟨6, 36, 36⟩, ⟨102, 36, 164⟩, ⟨6, 37, 37⟩, ⟨102, 37, 37⟩, ⟨6, 38, 38⟩, ⟨102, 38, 38⟩, ⟨6, 39, 39⟩, ⟨102, 39, 39⟩, ⟨6, 40, 40⟩, ⟨102, 40, 40⟩, ⟨6, 41, 41⟩, ⟨102, 41, 41⟩, ⟨6, 42, 42⟩, ⟨102, 42, 42⟩, ⟨6, 43, 43⟩, ⟨102, 43, 43⟩, ⟨6, 44, 44⟩, ⟨102, 44, 44⟩, ⟨6, 45, 45⟩, ⟨102, 45, 45⟩, ⟨6, 46, 46⟩, ⟨102, 46, 46⟩, ⟨6, 47, 47⟩, ⟨102, 47, 47⟩, ⟨6, 48, 48⟩, ⟨102, 48, 48⟩, ⟨6, 49, 49⟩, ⟨102, 49, 49⟩, ⟨6, 50, 50⟩, ⟨102, 50, 50⟩, ⟨6, 51, 51⟩, ⟨102, 51, 51⟩, ⟨6, 52, 52⟩, ⟨102, 52, 52⟩, ⟨6, 53, 53⟩, ⟨102, 53, 53⟩, ⟨6, 54, 54⟩, ⟨102, 54, 54⟩, ⟨6, 55, 55⟩, ⟨102, 55, 55⟩, ⟨6, 56, 56⟩, ⟨102, 56, 56⟩, ⟨6, 57, 57⟩, ⟨102, 57, 57⟩, ⟨6, 58, 58⟩, ⟨102, 58, 58⟩, ⟨6, 59, 59⟩, ⟨102, 59, 59⟩, ⟨6, 60, 60⟩, ⟨102, 60, 60⟩, ⟨6, 61, 61⟩, ⟨102, 61, 61⟩, ⟨6, 62, 62⟩, ⟨102, 62, 62⟩, ⟨6, 63, 63⟩, ⟨102, 63, 63⟩, ⟨6, 64, 64⟩, ⟨102, 64, 64⟩, ⟨6, 65, 65⟩, ⟨102, 65, 65⟩, ⟨6, 66, 66⟩, ⟨102, 66, 66⟩, ⟨6, 67, 67⟩, ⟨102, 67, 67⟩, ⟨6, 68, 68⟩, ⟨102, 68, 68⟩, ⟨6, 69, 69⟩, ⟨102, 69, 69⟩, ⟨6, 70, 70⟩, ⟨102, 70, 70⟩, ⟨6, 71, 71⟩, ⟨102, 71, 71⟩, ⟨6, 72, 72⟩, ⟨102, 72, 72⟩, ⟨6, 73, 73⟩, ⟨102, 73, 73⟩, ⟨6, 74, 74⟩, ⟨102, 74, 74⟩, ⟨6, 75, 75⟩, ⟨102, 75, 75⟩, ⟨6, 76, 76⟩, ⟨102, 76, 76⟩, ⟨6, 77, 77⟩, ⟨102, 77, 77⟩, ⟨6, 78, 78⟩, ⟨102, 78, 78⟩, ⟨6, 79, 79⟩, ⟨102, 79, 79⟩, ⟨6, 80, 80⟩, ⟨102, 80, 80⟩, ⟨6, 81, 81⟩, ⟨102, 81, 81⟩, ⟨6, 82, 82⟩, ⟨102, 82, 82⟩, ⟨6, 83, 83⟩, ⟨102, 83, 83⟩, ⟨6, 84, 84⟩, ⟨102, 84, 84⟩, ⟨6, 85, 85⟩, ⟨102, 85, 85⟩, ⟨6, 86, 86⟩, ⟨102, 86, 86⟩, ⟨6, 87, 87⟩, ⟨102, 87, 87⟩, ⟨6, 88, 88⟩, ⟨102, 88, 88⟩, ⟨6, 89, 89⟩, ⟨102, 89, 89⟩, ⟨6, 90, 90⟩, ⟨102, 90, 90⟩, ⟨6, 91, 91⟩, ⟨102, 91, 91⟩, ⟨6, 92, 92⟩, ⟨6, 93, 93⟩, ⟨102, 93, 93⟩, ⟨6, 94, 94⟩, ⟨6, 95, 95⟩, ⟨102, 95, 95⟩, ⟨6, 96, 96⟩, ⟨6, 97, 97⟩, ⟨102, 97, 97⟩, ⟨6, 98, 98⟩, ⟨102, 98, 98⟩, ⟨6, 99, 99⟩, ⟨102, 99, 99⟩, ⟨6, 100, 100⟩, ⟨102, 100, 100⟩, ⟨6, 101, 101⟩, ⟨102, 101, 101⟩, ⟨6, 102, 102⟩, ⟨102, 102, 102⟩, ⟨6, 103, 103⟩, ⟨102, 103, 103⟩, ⟨6, 104, 104⟩, ⟨102, 104, 104⟩, ⟨6, 105, 105⟩, ⟨102, 105, 105⟩, ⟨6, 106, 106⟩, ⟨102, 106, 106⟩, ⟨6, 107, 107⟩, ⟨102, 107, 107⟩, ⟨6, 108, 108⟩, ⟨102, 108, 108⟩, ⟨6, 109, 109⟩, ⟨102, 109, 109⟩, ⟨6, 110, 110⟩, ⟨102, 110, 110⟩, ⟨6, 111, 111⟩, ⟨102, 111, 111⟩, ⟨6, 112, 112⟩, ⟨102, 112, 112⟩, ⟨6, 113, 113⟩, ⟨102, 113, 113⟩, ⟨6, 114, 114⟩, ⟨102, 114, 114⟩, ⟨6, 115, 115⟩, ⟨102, 115, 115⟩, ⟨6, 116, 116⟩, ⟨102, 116, 116⟩, ⟨6, 117, 117⟩, ⟨102, 117, 117⟩, ⟨6, 118, 118⟩, ⟨102, 118, 118⟩, ⟨6, 119, 119⟩, ⟨102, 119, 119⟩, ⟨6, 120, 120⟩, ⟨102, 120, 120⟩, ⟨6, 121, 121⟩, ⟨102, 121, 121⟩, ⟨6, 122, 122⟩, ⟨102, 122, 122⟩, ⟨6, 123, 123⟩, ⟨6, 124, 124⟩, ⟨102, 124, 124⟩, ⟨6, 125, 125⟩, ⟨6, 126, 126⟩, ⟨103, 33, 161⟩, ⟨103, 34, 162⟩, ⟨103, 35, 163⟩, ⟨103, 36, 36⟩, ⟨103, 37, 165⟩, ⟨103, 38, 35⟩, ⟨103, 39, 167⟩, ⟨103, 40, 164⟩, ⟨103, 43, 171⟩, ⟨103, 48, 176⟩, ⟨103, 49, 177⟩, ⟨103, 50, 178⟩, ⟨103, 51, 179⟩, ⟨103, 52, 215⟩, ⟨103, 53, 181⟩, ⟨103, 54, 182⟩, ⟨103, 55, 183⟩, ⟨103, 56, 247⟩, ⟨103, 59, 187⟩, ⟨103, 60, 188⟩, ⟨103, 61, 189⟩, ⟨103, 62, 190⟩, ⟨103, 63, 191⟩, ⟨103, 96, 937⟩, ⟨103, 97, 198⟩, ⟨103, 98, 208⟩, ⟨103, 99, 170⟩, ⟨103, 100, 294⟩, ⟨103, 102, 306⟩, ⟨103, 103, 319⟩, ⟨103, 104, 321⟩, ⟨103, 105, 216⟩, ⟨103, 106, 338⟩, ⟨103, 107, 186⟩, ⟨103, 108, 222⟩, ⟨103, 109, 358⟩, ⟨103, 110, 330⟩, ⟨103, 111, 329⟩, ⟨103, 112, 312⟩, ⟨103, 113, 230⟩, ⟨103, 114, 273⟩, ⟨103, 115, 240⟩, ⟨103, 116, 295⟩, ⟨103, 117, 305⟩, ⟨103, 118, 307⟩, ⟨103, 119, 320⟩, ⟨103, 120, 322⟩, ⟨103, 121, 248⟩, ⟨103, 122, 339⟩, ⟨103, 123, 223⟩, ⟨103, 124, 254⟩, ⟨103, 125, 359⟩, ⟨103, 126, 331⟩, ⟨126, 65, 913⟩, ⟨126, 66, 914⟩, ⟨126, 67, 915⟩, ⟨126, 68, 916⟩, ⟨126, 69, 917⟩, ⟨126, 70, 918⟩, ⟨126, 71, 919⟩, ⟨126, 72, 920⟩, ⟨126, 73, 921⟩, ⟨126, 74, 922⟩, ⟨126, 75, 923⟩, ⟨126, 76, 924⟩, ⟨126, 77, 925⟩, ⟨126, 78, 926⟩, ⟨126, 79, 927⟩, ⟨126, 80, 928⟩, ⟨126, 81, 929⟩, ⟨126, 83, 931⟩, ⟨126, 84, 932⟩, ⟨126, 85, 933⟩, ⟨126, 86, 934⟩, ⟨126, 87, 935⟩, ⟨126, 88, 936⟩, ⟨126, 89, 937⟩, ⟨126, 90, 938⟩, ⟨126, 91, 939⟩, ⟨126, 92, 940⟩, ⟨126, 93, 941⟩, ⟨126, 94, 942⟩, ⟨126, 95, 943⟩, ⟨126, 96, 944⟩, ⟨126, 97, 945⟩, ⟨126, 98, 946⟩, ⟨126, 99, 947⟩, ⟨126, 100, 948⟩, ⟨126, 101, 949⟩, ⟨126, 102, 950⟩, ⟨126, 103, 951⟩, ⟨126, 104, 952⟩, ⟨126, 105, 953⟩, ⟨126, 106, 954⟩, ⟨126, 107, 955⟩, ⟨126, 108, 956⟩, ⟨126, 109, 957⟩, ⟨126, 110, 958⟩, ⟨126, 111, 959⟩, ⟨126, 112, 960⟩, ⟨126, 113, 961⟩, ⟨126, 114, 962⟩, ⟨126, 115, 963⟩, ⟨126, 116, 964⟩, ⟨126, 117, 965⟩, ⟨126, 118, 966⟩, ⟨126, 119, 967⟩, ⟨126, 120, 968⟩, ⟨126, 121, 969⟩, ⟨126, 122, 970⟩, ⟨126, 123, 971⟩, ⟨126, 124, 972⟩, ⟨126, 125, 973⟩, ⟨126, 126, 974⟩, ⟨144, 33, 1025⟩, ⟨144, 34, 1026⟩, ⟨144, 35, 1027⟩, ⟨144, 36, 1028⟩, ⟨144, 37, 1029⟩, ⟨144, 38, 1030⟩, ⟨144, 39, 1031⟩, ⟨144, 40, 1032⟩, ⟨144, 41, 1033⟩, ⟨144, 42, 1034⟩, ⟨144, 43, 1035⟩, ⟨144, 44, 1036⟩, ⟨144, 46, 1038⟩, ⟨144, 47, 1039⟩, ⟨144, 48, 1040⟩, ⟨144, 49, 1041⟩, ⟨144, 50, 1042⟩, ⟨144, 51, 1043⟩, ⟨144, 52, 1044⟩, ⟨144, 53, 1045⟩, ⟨144, 54, 1046⟩, ⟨144, 55, 1047⟩, ⟨144, 56, 1048⟩, ⟨144, 57, 1049⟩, ⟨144, 58, 1050⟩, ⟨144, 59, 1051⟩, ⟨144, 60, 1052⟩, ⟨144, 61, 1053⟩, ⟨144, 62, 1054⟩, ⟨144, 63, 1055⟩, ⟨144, 64, 1056⟩, ⟨144, 65, 1057⟩, ⟨144, 66, 1058⟩, ⟨144, 67, 1059⟩, ⟨144, 68, 1060⟩, ⟨144, 69, 1061⟩, ⟨144, 70, 1062⟩, ⟨144, 71, 1063⟩, ⟨144, 72, 1064⟩, ⟨144, 73, 1065⟩, ⟨144, 74, 1066⟩, ⟨144, 75, 1067⟩, ⟨144, 76, 1068⟩, ⟨144, 77, 1069⟩, ⟨144, 78, 1070⟩, ⟨144, 79, 1071⟩, ⟨144, 80, 1072⟩, ⟨144, 81, 1073⟩, ⟨144, 82, 1074⟩, ⟨144, 83, 1075⟩, ⟨144, 84, 1076⟩, ⟨144, 85, 1077⟩, ⟨144, 86, 1078⟩, ⟨144, 87, 1079⟩, ⟨144, 88, 1080⟩, ⟨144, 89, 1081⟩, ⟨144, 90, 1082⟩, ⟨144, 91, 1083⟩, ⟨144, 92, 1084⟩, ⟨144, 93, 1085⟩, ⟨144, 94, 1086⟩, ⟨144, 95, 1087⟩, ⟨144, 96, 1088⟩, ⟨144, 97, 1089⟩, ⟨144, 98, 1090⟩, ⟨144, 99, 1091⟩, ⟨144, 100, 1092⟩, ⟨144, 101, 1093⟩, ⟨144, 102, 1094⟩, ⟨144, 103, 1095⟩, ⟨144, 104, 1096⟩, ⟨144, 105, 1097⟩, ⟨144, 106, 1098⟩, ⟨144, 107, 1099⟩, ⟨144, 108, 1100⟩, ⟨144, 109, 1101⟩, ⟨144, 110, 1102⟩, ⟨144, 111, 1103⟩, ⟨144, 113, 1105⟩, ⟨144, 114, 1106⟩, ⟨144, 115, 1107⟩, ⟨144, 116, 1108⟩, ⟨144, 117, 1109⟩, ⟨144, 118, 1110⟩, ⟨144, 119, 1111⟩, ⟨144, 120, 1112⟩, ⟨144, 121, 1113⟩, ⟨144, 122, 1114⟩, ⟨144, 123, 1115⟩, ⟨144, 124, 1116⟩, ⟨144, 126, 1118⟩, ⟨138, 96, 1488⟩, ⟨138, 97, 1489⟩, ⟨138, 98, 1490⟩, ⟨138, 99, 1491⟩, ⟨138, 100, 1492⟩, ⟨138, 101, 1493⟩, ⟨138, 102, 1494⟩, ⟨138, 103, 1495⟩, ⟨138, 104, 1496⟩, ⟨138, 105, 1497⟩, ⟨138, 106, 1498⟩, ⟨138, 107, 1499⟩, ⟨138, 108, 1500⟩, ⟨138, 109, 1501⟩, ⟨138, 110, 1502⟩, ⟨138, 111, 1503⟩, ⟨138, 112, 1504⟩, ⟨138, 113, 1505⟩, ⟨138, 114, 1506⟩, ⟨138, 115, 1507⟩, ⟨138, 116, 1508⟩, ⟨138, 117, 1509⟩, ⟨138, 118, 1510⟩, ⟨138, 119, 1511⟩, ⟨138, 120, 1512⟩, ⟨138, 121, 1513⟩, ⟨138, 122, 1514⟩, ⟨87, 9249, 12353⟩, ⟨87, 9250, 12354⟩, ⟨87, 9251, 12355⟩, ⟨87, 9252, 12356⟩, ⟨87, 9253, 12357⟩, ⟨87, 9254, 12358⟩, ⟨87, 9255, 12359⟩, ⟨87, 9256, 12360⟩, ⟨87, 9257, 12361⟩, ⟨87, 9258, 12362⟩, ⟨87, 9259, 12363⟩, ⟨87, 9260, 12364⟩, ⟨87, 9261, 12365⟩, ⟨87, 9262, 12366⟩, ⟨87, 9263, 12367⟩, ⟨87, 9264, 12368⟩, ⟨87, 9265, 12369⟩, ⟨87, 9266, 12370⟩, ⟨87, 9267, 12371⟩, ⟨87, 9268, 12372⟩, ⟨87, 9269, 12373⟩, ⟨87, 9270, 12374⟩, ⟨87, 9271, 12375⟩, ⟨87, 9272, 12376⟩, ⟨87, 9273, 12377⟩, ⟨87, 9274, 12378⟩, ⟨87, 9275, 12379⟩, ⟨87, 9276, 12380⟩, ⟨87, 9277, 12381⟩, ⟨87, 9278, 12382⟩, ⟨87, 9279, 12383⟩, ⟨87, 9280, 12384⟩, ⟨87, 9281, 12385⟩, ⟨87, 9282, 12386⟩, ⟨87, 9283, 12387⟩, ⟨87, 9284, 12388⟩, ⟨87, 9285, 12389⟩, ⟨87, 9286, 12390⟩, ⟨87, 9287, 12391⟩, ⟨87, 9288, 12392⟩, ⟨87, 9289, 12393⟩, ⟨87, 9290, 12394⟩, ⟨87, 9291, 12395⟩, ⟨87, 9292, 12396⟩, ⟨87, 9293, 12397⟩, ⟨87, 9294, 12398⟩, ⟨87, 9295, 12399⟩, ⟨87, 9296, 12400⟩, ⟨87, 9297, 12401⟩, ⟨87, 9298, 12402⟩, ⟨87, 9299, 12403⟩, ⟨87, 9300, 12404⟩, ⟨87, 9301, 12405⟩, ⟨87, 9302, 12406⟩, ⟨87, 9303, 12407⟩, ⟨87, 9304, 12408⟩, ⟨87, 9305, 12409⟩, ⟨87, 9306, 12410⟩, ⟨87, 9307, 12411⟩, ⟨87, 9308, 12412⟩, ⟨87, 9309, 12413⟩, ⟨87, 9310, 12414⟩, ⟨87, 9311, 12415⟩, ⟨87, 9312, 12416⟩, ⟨87, 9313, 12417⟩, ⟨87, 9314, 12418⟩, ⟨87, 9315, 12419⟩, ⟨87, 9316, 12420⟩, ⟨87, 9317, 12421⟩, ⟨87, 9318, 12422⟩, ⟨87, 9319, 12423⟩, ⟨87, 9320, 12424⟩, ⟨87, 9321, 12425⟩, ⟨87, 9322, 12426⟩, ⟨87, 9323, 12427⟩, ⟨87, 9324, 12428⟩, ⟨87, 9325, 12429⟩, ⟨87, 9326, 12430⟩, ⟨87, 9327, 12431⟩, ⟨87, 9328, 12432⟩, ⟨87, 9329, 12433⟩, ⟨87, 9330, 12434⟩, ⟨87, 9331, 12435⟩, ⟨87, 9505, 12449⟩, ⟨87, 9506, 12450⟩, ⟨87, 9507, 12451⟩, ⟨87, 9508, 12452⟩, ⟨87, 9509, 12453⟩, ⟨87, 9510, 12454⟩, ⟨87, 9511, 12455⟩, ⟨87, 9512, 12456⟩, ⟨87, 9513, 12457⟩, ⟨87, 9514, 12458⟩, ⟨87, 9515, 12459⟩, ⟨87, 9516, 12460⟩, ⟨87, 9517, 12461⟩, ⟨87, 9518, 12462⟩, ⟨87, 9519, 12463⟩, ⟨87, 9520, 12464⟩, ⟨87, 9521, 12465⟩, ⟨87, 9522, 12466⟩, ⟨87, 9523, 12467⟩, ⟨87, 9524, 12468⟩, ⟨87, 9525, 12469⟩, ⟨87, 9526, 12470⟩, ⟨87, 9527, 12471⟩, ⟨87, 9528, 12472⟩, ⟨87, 9529, 12473⟩, ⟨87, 9530, 12474⟩, ⟨87, 9531, 12475⟩, ⟨87, 9532, 12476⟩, ⟨87, 9533, 12477⟩, ⟨87, 9534, 12478⟩, ⟨87, 9535, 12479⟩, ⟨87, 9536, 12480⟩, ⟨87, 9537, 12481⟩, ⟨87, 9538, 12482⟩, ⟨87, 9539, 12483⟩, ⟨87, 9540, 12484⟩, ⟨87, 9541, 12485⟩, ⟨87, 9542, 12486⟩, ⟨87, 9543, 12487⟩, ⟨87, 9544, 12488⟩, ⟨87, 9545, 12489⟩, ⟨87, 9546, 12490⟩, ⟨87, 9547, 12491⟩, ⟨87, 9548, 12492⟩, ⟨87, 9549, 12493⟩, ⟨87, 9550, 12494⟩, ⟨87, 9551, 12495⟩, ⟨87, 9552, 12496⟩, ⟨87, 9553, 12497⟩, ⟨87, 9554, 12498⟩, ⟨87, 9555, 12499⟩, ⟨87, 9556, 12500⟩, ⟨87, 9557, 12501⟩, ⟨87, 9558, 12502⟩, ⟨87, 9559, 12503⟩, ⟨87, 9560, 12504⟩, ⟨87, 9561, 12505⟩, ⟨87, 9562, 12506⟩, ⟨87, 9563, 12507⟩, ⟨87, 9564, 12508⟩, ⟨87, 9565, 12509⟩, ⟨87, 9566, 12510⟩, ⟨87, 9567, 12511⟩, ⟨87, 9568, 12512⟩, ⟨87, 9569, 12513⟩, ⟨87, 9570, 12514⟩, ⟨87, 9571, 12515⟩, ⟨87, 9572, 12516⟩, ⟨87, 9573, 12517⟩, ⟨87, 9574, 12518⟩, ⟨87, 9575, 12519⟩, ⟨87, 9576, 12520⟩, ⟨87, 9577, 12521⟩, ⟨87, 9578, 12522⟩, ⟨87, 9579, 12523⟩, ⟨87, 9580, 12524⟩, ⟨87, 9581, 12525⟩, ⟨87, 9582, 12526⟩, ⟨87, 9583, 12527⟩, ⟨87, 9584, 12528⟩, ⟨87, 9585, 12529⟩, ⟨87, 9586, 12530⟩, ⟨87, 9587, 12531⟩, ⟨87, 9588, 12532⟩, ⟨87, 9589, 12533⟩, ⟨87, 9590, 12534⟩]
set_option maxRecDepth 100000 in
set_option maxHeartbeats 4000000 in
theorem codes_any (w : World) :
    Calls Try.prog 16 #[] w fun e w' => ∃ (ys : List S38) (A : Option Addr) (c : Nat), e = .returned (.slice A ys.length c) ∧ Held w' w.heap.size ys A c ∧ Below w.heap.size w w' ∧ ys = codesAll := by
  go_enter Try.func16, Try.ntmps16
  go_wp2
  have HH := Aside0.mk (Held.start w)
  have HW : Aside0 (Below w.heap.size w (w.alloc (.cells #[.slice none 0 0] 35))) := ⟨(Below.refl _ _).alloc (Nat.le_refl _) _⟩
  go_loopw [2] (fun v wr => ∃ (b : Int) (ys : List S38) (Ay : Option Addr) (cy : Nat), v = .int .i64 b ∧ 33 ≤ b ∧ b ≤ 127 ∧ (ys.length : Int) ≤ 2 * b ∧ Aside0 (ys ++ codesFrom b (127 - b).toNat = codesFrom 33 94) ∧ Aside0 (Held wr w.heap.size ys Ay cy) ∧ Aside0 (Below w.heap.size w wr)) (fun v _ => (127 - intOf v).toNat)
  case atStart => exact ⟨33, [], none, 0, rfl, by decide, by decide, by decide, ⟨rfl⟩, HH, HW⟩
  case round =>
    clear HH HW
    obtain ⟨b, ys, Ay, cy, rfl, hb1, hb2, hy, HE, HH, HW⟩ := hrel
    have hB : w.heap.size ≤ w.heap.size := Nat.le_refl _
    by_cases hlt : b ≤ 126
    · have hBlt := lt_of_block HH.out.blk
      have hcell := cell_of_one HH.out.blk
      have hfree := free_of_one HH.out.blk
      have HE2 : Aside0 (ys ++ (codesOf b ++ codesFrom (b + 1) (127 - (b + 1)).toNat) = codesFrom 33 94) := ⟨by
        have := HE.out
        rw [show (127 - b).toNat = (127 - (b + 1)).toNat + 1 by omega] at this
        exact this⟩
      clear HE
      go_wp2_with (first
        | (at_builtin; refine Kd.R_append k38 (w0 := (wr)) (w.heap.size + 1) rfl (.tmp 10) (.tmp 14) 35 38 (.agg #[(.int .i64 0), (.int .i64 0), (.int .i64 0)]) 24 rfl Try.underlying35 infoCode rfl (by decide) (by omega) _ ys (⟨6, b, b⟩ : S38) [.int .i64 6, .int .i64 b, .int .i64 b] (fun _ => True) (fun _ => False) rfl rfl ?aP106 (fun _ hk => hk.elim) ?aF106 ?aO106 ?aB106 ?aS106 ?aL106 ?_))
      case aP106 => exact k38_mkM _ _ _ (⟨6, b, b⟩ : S38)
      first | (case aF106 => exact fun _ _ => trivial) | skip
      case aO106 => exact HH.out.row
      case aB106 => exact Below.refl _ _
      case aS106 => exact hBlt
      case aL106 => omega
      intro v1 w2 hR hBB hg hat
      obtain ⟨A1, c1, ev⟩ := Kd.R_slice hR
      subst ev
      obtain ⟨hcell2, hfree2, hblk2⟩ := HH.out.cellIn hg
      have HH2 := Aside0.mk (HH.out.stored hg hR)
      have HW2 := Aside0.mk (HH.out.keeps hB HW.out hg (.slice A1 (ys ++ [(⟨6, b, b⟩ : S38)]).length c1))
      clear hR hBB hg hat hblk2 hcell hfree
      have hlen2 : (ys ++ [(⟨6, b, b⟩ : S38)]).length ≤ ys.length + 1 := by simp
      have HE3 : Aside0 ((ys ++ [(⟨6, b, b⟩ : S38)]) ++ ((if b = 36 then [(⟨102, b, 164⟩ : S38)] else if b = 92 then [] else if b = 94 then [] else if b = 96 then [] else if 123 ≤ b ∧ ¬ b = 124 then [] else [(⟨102, b, b⟩ : S38)]) ++ codesFrom (b + 1) (127 - (b + 1)).toNat) = codesFrom 33 94) := ⟨by
        have := HE2.out
        rw [codesOf] at this
        rw [List.append_assoc]
        exact this⟩
      clear HE2 HH HW hBlt
      generalize ys ++ [(⟨6, b, b⟩ : S38)] = zs at *
      go_upto_region 7 with fail
      generalize w2.setCell ⟨w.heap.size, 0, none⟩ (.slice A1 zs.length c1) = wa at *
      clear hcell2 hfree2
      have hBlt := lt_of_block HH2.out.blk
      have hcell := cell_of_one HH2.out.blk
      have hfree := free_of_one HH2.out.blk
      by_cases h36 : b = 36
      · subst h36
        have cb : ((36 : Int) == 36) = true := rfl
        have HE4 : Aside0 ((zs ++ [(⟨102, (36 : Int), 164⟩ : S38)]) ++ codesFrom ((36 : Int) + 1) (127 - ((36 : Int) + 1)).toNat = codesFrom 33 94) := ⟨by have := HE3.out; rw [if_pos rfl] at this; simpa [List.append_assoc] using this⟩
        clear HE3
        go_wp2_with (first
          | (at_builtin; refine Kd.R_append k38 (w0 := (wa)) (w.heap.size + 1) rfl (.tmp 25) (.tmp 28) 35 38 (.agg #[(.int .i64 0), (.int .i64 0), (.int .i64 0)]) 24 rfl Try.underlying35 infoCode rfl (by decide) (by omega) _ zs (⟨102, (36 : Int), 164⟩ : S38) [.int .i64 102, .int .i64 (36 : Int), .int .i64 164] (fun _ => True) (fun _ => False) rfl rfl ?aP258 (fun _ hk => hk.elim) ?aF258 ?aO258 ?aB258 ?aS258 ?aL258 ?_))
        case aP258 => exact k38_mkM _ _ _ (⟨102, (36 : Int), 164⟩ : S38)
        first | (case aF258 => exact fun _ _ => trivial) | skip
        case aO258 => exact HH2.out.row
        case aB258 => exact Below.refl _ _
        case aS258 => exact hBlt
        case aL258 => omega
        intro v1 w2 hR hBB hg hat
        obtain ⟨A1, c1, ev⟩ := Kd.R_slice hR
        subst ev
        obtain ⟨hcell2, hfree2, hblk2⟩ := HH2.out.cellIn hg
        have HH3 := Aside0.mk (HH2.out.stored hg hR)
        have HW3 := Aside0.mk (HH2.out.keeps hB HW2.out hg (.slice A1 (zs ++ [(⟨102, (36 : Int), 164⟩ : S38)]).length c1))
        clear hR hBB hg hat hblk2 hcell hfree
        have hlen3 : (zs ++ [(⟨102, (36 : Int), 164⟩ : S38)]).length ≤ zs.length + 1 := by simp
        generalize zs ++ [(⟨102, (36 : Int), 164⟩ : S38)] = us at *
        go_wp2
        go_roundw
        case rel => exact ⟨(36 : Int) + 1, us, _, _, by go_num, by omega, by omega, by omega, HE4, HH3, HW3⟩
        case measure => first | (simp [intOf]; done) | (simp [intOf]; omega)
      have cb92p : (b == 36) = false := by simp [h36]
      by_cases h92 : b = 92
      · have cb : (b == 92) = true := by simp [h92]
        have HE4 : Aside0 (zs ++ codesFrom (b + 1) (127 - (b + 1)).toNat = codesFrom 33 94) := ⟨by have := HE3.out; rw [if_neg h36, if_pos h92] at this; simpa [List.append_assoc] using this⟩
        clear HE3
        go_wp2
        go_roundw
        case rel => exact ⟨b + 1, zs, _, _, by go_num, by omega, by omega, by omega, HE4, HH2, HW2⟩
        case measure => first | (simp [intOf]; done) | (simp [intOf]; omega)
      have cb94p : (b == 92) = false := by simp [h92]
      by_cases h94 : b = 94
      · have cb : (b == 94) = true := by simp [h94]
        have HE4 : Aside0 (zs ++ codesFrom (b + 1) (127 - (b + 1)).toNat = codesFrom 33 94) := ⟨by have := HE3.out; rw [if_neg h36, if_neg h92, if_pos h94] at this; simpa [List.append_assoc] using this⟩
        clear HE3
        go_wp2
        go_roundw
        case rel => exact ⟨b + 1, zs, _, _, by go_num, by omega, by omega, by omega, HE4, HH2, HW2⟩
        case measure => first | (simp [intOf]; done) | (simp [intOf]; omega)
      have cb96p : (b == 94) = false := by simp [h94]
      by_cases h96 : b = 96
      · have cb : (b == 96) = true := by simp [h96]
        have HE4 : Aside0 (zs ++ codesFrom (b + 1) (127 - (b + 1)).toNat = codesFrom 33 94) := ⟨by have := HE3.out; rw [if_neg h36, if_neg h92, if_neg h94, if_pos h96] at this; simpa [List.append_assoc] using this⟩
        clear HE3
        go_wp2
        go_roundw
        case rel => exact ⟨b + 1, zs, _, _, by go_num, by omega, by omega, by omega, HE4, HH2, HW2⟩
        case measure => first | (simp [intOf]; done) | (simp [intOf]; omega)
      have cb97p : (b == 96) = false := by simp [h96]
      by_cases h123 : 123 ≤ b
      · by_cases h124 : b = 124
        · subst h124
          have cb : ((124 : Int) != 124) = false := rfl
          have HE4 : Aside0 ((zs ++ [(⟨102, (124 : Int), (124 : Int)⟩ : S38)]) ++ codesFrom ((124 : Int) + 1) (127 - ((124 : Int) + 1)).toNat = codesFrom 33 94) := ⟨by have := HE3.out; rw [if_neg h36, if_neg h92, if_neg h94, if_neg h96, if_neg (by omega)] at this; simpa [List.append_assoc] using this⟩
          clear HE3
          go_wp2_with (first
            | (at_builtin; refine Kd.R_append k38 (w0 := (wa)) (w.heap.size + 1) rfl (.tmp 16) (.tmp 20) 35 38 (.agg #[(.int .i64 0), (.int .i64 0), (.int .i64 0)]) 24 rfl Try.underlying35 infoCode rfl (by decide) (by omega) _ zs (⟨102, (124 : Int), (124 : Int)⟩ : S38) [.int .i64 102, .int .i64 (124 : Int), .int .i64 (124 : Int)] (fun _ => True) (fun _ => False) rfl rfl ?aP1610 (fun _ hk => hk.elim) ?aF1610 ?aO1610 ?aB1610 ?aS1610 ?aL1610 ?_))
          case aP1610 => exact k38_mkM _ _ _ (⟨102, (124 : Int), (124 : Int)⟩ : S38)
          first | (case aF1610 => exact fun _ _ => trivial) | skip
          case aO1610 => exact HH2.out.row
          case aB1610 => exact Below.refl _ _
          case aS1610 => exact hBlt
          case aL1610 => omega
          intro v1 w2 hR hBB hg hat
          obtain ⟨A1, c1, ev⟩ := Kd.R_slice hR
          subst ev
          obtain ⟨hcell2, hfree2, hblk2⟩ := HH2.out.cellIn hg
          have HH3 := Aside0.mk (HH2.out.stored hg hR)
          have HW3 := Aside0.mk (HH2.out.keeps hB HW2.out hg (.slice A1 (zs ++ [(⟨102, (124 : Int), (124 : Int)⟩ : S38)]).length c1))
          clear hR hBB hg hat hblk2 hcell hfree
          have hlen3 : (zs ++ [(⟨102, (124 : Int), (124 : Int)⟩ : S38)]).length ≤ zs.length + 1 := by simp
          generalize zs ++ [(⟨102, (124 : Int), (124 : Int)⟩ : S38)] = us at *
          go_wp2
          go_roundw
          case rel => exact ⟨(124 : Int) + 1, us, _, _, by go_num, by omega, by omega, by omega, HE4, HH3, HW3⟩
          case measure => first | (simp [intOf]; done) | (simp [intOf]; omega)
        · have cb : (b != 124) = true := by simp [h124]
          have HE4 : Aside0 (zs ++ codesFrom (b + 1) (127 - (b + 1)).toNat = codesFrom 33 94) := ⟨by have := HE3.out; rw [if_neg h36, if_neg h92, if_neg h94, if_neg h96, if_pos ⟨h123, h124⟩] at this; simpa [List.append_assoc] using this⟩
          clear HE3
          go_wp2
          go_roundw
          case rel => exact ⟨b + 1, zs, _, _, by go_num, by omega, by omega, by omega, HE4, HH2, HW2⟩
          case measure => first | (simp [intOf]; done) | (simp [intOf]; omega)
      · skip
        have HE4 : Aside0 ((zs ++ [(⟨102, b, b⟩ : S38)]) ++ codesFrom (b + 1) (127 - (b + 1)).toNat = codesFrom 33 94) := ⟨by have := HE3.out; rw [if_neg h36, if_neg h92, if_neg h94, if_neg h96, if_neg (by omega)] at this; simpa [List.append_assoc] using this⟩
        clear HE3
        go_wp2_with (first
          | (at_builtin; refine Kd.R_append k38 (w0 := (wa)) (w.heap.size + 1) rfl (.tmp 16) (.tmp 20) 35 38 (.agg #[(.int .i64 0), (.int .i64 0), (.int .i64 0)]) 24 rfl Try.underlying35 infoCode rfl (by decide) (by omega) _ zs (⟨102, b, b⟩ : S38) [.int .i64 102, .int .i64 b, .int .i64 b] (fun _ => True) (fun _ => False) rfl rfl ?aP168 (fun _ hk => hk.elim) ?aF168 ?aO168 ?aB168 ?aS168 ?aL168 ?_))
        case aP168 => exact k38_mkM _ _ _ (⟨102, b, b⟩ : S38)
        first | (case aF168 => exact fun _ _ => trivial) | skip
        case aO168 => exact HH2.out.row
        case aB168 => exact Below.refl _ _
        case aS168 => exact hBlt
        case aL168 => omega
        intro v1 w2 hR hBB hg hat
        obtain ⟨A1, c1, ev⟩ := Kd.R_slice hR
        subst ev
        obtain ⟨hcell2, hfree2, hblk2⟩ := HH2.out.cellIn hg
        have HH3 := Aside0.mk (HH2.out.stored hg hR)
        have HW3 := Aside0.mk (HH2.out.keeps hB HW2.out hg (.slice A1 (zs ++ [(⟨102, b, b⟩ : S38)]).length c1))
        clear hR hBB hg hat hblk2 hcell hfree
        have hlen3 : (zs ++ [(⟨102, b, b⟩ : S38)]).length ≤ zs.length + 1 := by simp
        generalize zs ++ [(⟨102, b, b⟩ : S38)] = us at *
        go_wp2
        go_roundw
        case rel => exact ⟨b + 1, us, _, _, by go_num, by omega, by omega, by omega, HE4, HH3, HW3⟩
        case measure => first | (simp [intOf]; done) | (simp [intOf]; omega)
    · have hb3 : b = 127 := by omega
      subst hb3
      have HE0 : Aside0 (ys = codesFrom 33 94) := ⟨by have := HE.out; simpa [codesFrom] using this⟩
      clear HE
      have HE := HE0
      clear HE0
      have hyl : ys.length ≤ 254 := by omega
      clear hlt hb1 hb2 hy
      have hcell := cell_of_one HH.out.blk
      have hfree := free_of_one HH.out.blk
      have hBlt := lt_of_block HH.out.blk
      go_wp2_with (first
 | (go_at_call 28; (with_reducible refine (put_S _ _ _ (by decide +kernel) (by decide) w.heap.size _ (by omega) _ _ w _ hB HW.out HH.out).mono ?_); rintro e w1 ⟨rfl, ⟨ys1, A1, c1, he, hlen, hH⟩, hb⟩; have HE := Aside0.mk (he.trans (congrArg (· ++ _) HE.out)); have HH := Aside0.mk hH; have HW := Aside0.mk hb; have hcell := cell_of_one HH.out.blk; have hfree := free_of_one HH.out.blk; have hBlt := lt_of_block HH.out.blk; clear he hH hb))
      have hy1 : ys1.length ≤ 800 := by omega
      clear hlen hyl
      go_loopw [54] (fun v wr => ∃ (i : Nat) (zs : List S38) (Az : Option Addr) (cz : Nat), v = .int .i64 i ∧ i ≤ 83 ∧ zs.length ≤ 800 + i ∧ Aside0 (zs ++ kanaFrom 9249 12353 (i : Int) (83 - i) = ys1 ++ kanaFrom 9249 12353 0 83) ∧ Aside0 (Held wr w.heap.size zs Az cz) ∧ Aside0 (Below w.heap.size w wr)) (fun v _ => 83 - (intOf v).toNat)
      case atStart => exact ⟨0, ys1, _, _, rfl, Nat.zero_le _, by omega, ⟨rfl⟩, HH, HW⟩
      case round =>
        clear HH HW hcell hfree hBlt
        obtain ⟨i, zs, Az, cz, rfl, hi, hz, HK, HH, HW⟩ := hrel
        have hBlt := lt_of_block HH.out.blk
        have hcell := cell_of_one HH.out.blk
        have hfree := free_of_one HH.out.blk
        by_cases hlt : i < 83
        · have HK2 : Aside0 ((zs ++ [(⟨87, 9249 + (i : Int), 12353 + (i : Int)⟩ : S38)]) ++ kanaFrom 9249 12353 ((i + 1 : Nat) : Int) (83 - (i + 1)) = ys1 ++ kanaFrom 9249 12353 0 83) := ⟨by
            have := HK.out
            rw [show 83 - i = (83 - (i + 1)) + 1 by omega, kanaFrom] at this
            rw [List.append_assoc]
            exact this⟩
          clear HK
          go_wp2_with (first
            | (at_builtin; refine Kd.R_append k38 (w0 := (wr)) (w.heap.size + 1) rfl (.tmp 57) (.tmp 63) 35 38 (.agg #[(.int .i64 0), (.int .i64 0), (.int .i64 0)]) 24 rfl Try.underlying35 infoCode rfl (by decide) (by omega) _ zs (⟨87, 9249 + (i : Int), 12353 + (i : Int)⟩ : S38) [.int .i64 87, .int .i64 (9249 + (i : Int)), .int .i64 (12353 + (i : Int))] (fun _ => True) (fun _ => False) rfl rfl ?aP5710 (fun _ hk => hk.elim) ?aF5710 ?aO5710 ?aB5710 ?aS5710 ?aL5710 ?_))
          case aP5710 => exact k38_mkM _ _ _ (⟨87, 9249 + (i : Int), 12353 + (i : Int)⟩ : S38)
          first | (case aF5710 => exact fun _ _ => trivial) | skip
          case aO5710 => exact HH.out.row
          case aB5710 => exact Below.refl _ _
          case aS5710 => exact hBlt
          case aL5710 => omega
          intro v1 w2 hR hBB hg hat
          obtain ⟨A1, c1, ev⟩ := Kd.R_slice hR
          subst ev
          obtain ⟨hcell2, hfree2, hblk2⟩ := HH.out.cellIn hg
          have HH2 := Aside0.mk (HH.out.stored hg hR)
          have HW2 := Aside0.mk (HH.out.keeps hB HW.out hg (.slice A1 (zs ++ [(⟨87, 9249 + (i : Int), 12353 + (i : Int)⟩ : S38)]).length c1))
          clear hR hBB hg hat hblk2 hcell hfree
          have hlen2 : (zs ++ [(⟨87, 9249 + (i : Int), 12353 + (i : Int)⟩ : S38)]).length ≤ zs.length + 1 := by simp
          generalize zs ++ [(⟨87, 9249 + (i : Int), 12353 + (i : Int)⟩ : S38)] = us at *
          go_wp2
          go_roundw
          case rel =>
            first
              | exact ⟨i + 1, us, _, _, by go_num, by omega, by omega, HK2, HH2, HW2⟩
              | exact ⟨_, .int .i64 ((i : Int) + 1), _, _, _, _, _, _, _, _, _, _, _, ⟨i + 1, us, _, _, by go_num, by omega, by omega, HK2, HH2, HW2⟩, rfl⟩
          case measure => first | (simp [intOf]; done) | (simp [intOf]; omega)
        · have hi2 : i = 83 := by omega
          subst hi2
          have HE2 := Aside0.mk ((by have := HK.out; simpa [kanaFrom_zero] using this : zs = ys1 ++ kanaFrom 9249 12353 0 83).trans (congrArg (· ++ kanaFrom 9249 12353 0 83) HE.out))
          clear HK HE
          have HE := HE2
          clear HE2 hlt hi
          go_wp2
          go_loopw [66] (fun v wr => ∃ (i : Nat) (vs : List S38) (Az : Option Addr) (cz : Nat), v = .int .i64 i ∧ i ≤ 86 ∧ vs.length ≤ 900 + i ∧ Aside0 (vs ++ kanaFrom 9505 12449 (i : Int) (86 - i) = zs ++ kanaFrom 9505 12449 0 86) ∧ Aside0 (Held wr w.heap.size vs Az cz) ∧ Aside0 (Below w.heap.size w wr)) (fun v _ => 86 - (intOf v).toNat)
          case atStart => exact ⟨0, zs, _, _, rfl, Nat.zero_le _, by omega, ⟨rfl⟩, HH, HW⟩
          case round =>
            clear HH HW hcell hfree hBlt
            obtain ⟨i, vs, Az, cz, rfl, hi, hz, HK, HH, HW⟩ := hrel
            have hBlt := lt_of_block HH.out.blk
            have hcell := cell_of_one HH.out.blk
            have hfree := free_of_one HH.out.blk
            by_cases hlt : i < 86
            · have HK2 : Aside0 ((vs ++ [(⟨87, 9505 + (i : Int), 12449 + (i : Int)⟩ : S38)]) ++ kanaFrom 9505 12449 ((i + 1 : Nat) : Int) (86 - (i + 1)) = zs ++ kanaFrom 9505 12449 0 86) := ⟨by
                have := HK.out
                rw [show 86 - i = (86 - (i + 1)) + 1 by omega, kanaFrom] at this
                rw [List.append_assoc]
                exact this⟩
              clear HK
              go_wp2_with (first
                | (at_builtin; refine Kd.R_append k38 (w0 := (wr)) (w.heap.size + 1) rfl (.tmp 69) (.tmp 75) 35 38 (.agg #[(.int .i64 0), (.int .i64 0), (.int .i64 0)]) 24 rfl Try.underlying35 infoCode rfl (by decide) (by omega) _ vs (⟨87, 9505 + (i : Int), 12449 + (i : Int)⟩ : S38) [.int .i64 87, .int .i64 (9505 + (i : Int)), .int .i64 (12449 + (i : Int))] (fun _ => True) (fun _ => False) rfl rfl ?aP6914 (fun _ hk => hk.elim) ?aF6914 ?aO6914 ?aB6914 ?aS6914 ?aL6914 ?_))
              case aP6914 => exact k38_mkM _ _ _ (⟨87, 9505 + (i : Int), 12449 + (i : Int)⟩ : S38)
              first | (case aF6914 => exact fun _ _ => trivial) | skip
              case aO6914 => exact HH.out.row
              case aB6914 => exact Below.refl _ _
              case aS6914 => exact hBlt
              case aL6914 => omega
              intro v1 w2 hR hBB hg hat
              obtain ⟨A1, c1, ev⟩ := Kd.R_slice hR
              subst ev
              obtain ⟨hcell2, hfree2, hblk2⟩ := HH.out.cellIn hg
              have HH2 := Aside0.mk (HH.out.stored hg hR)
              have HW2 := Aside0.mk (HH.out.keeps hB HW.out hg (.slice A1 (vs ++ [(⟨87, 9505 + (i : Int), 12449 + (i : Int)⟩ : S38)]).length c1))
              clear hR hBB hg hat hblk2 hcell hfree
              have hlen2 : (vs ++ [(⟨87, 9505 + (i : Int), 12449 + (i : Int)⟩ : S38)]).length ≤ vs.length + 1 := by simp
              generalize vs ++ [(⟨87, 9505 + (i : Int), 12449 + (i : Int)⟩ : S38)] = us at *
              go_wp2
              go_roundw
              case rel =>
                first
                  | exact ⟨i + 1, us, _, _, by go_num, by omega, by omega, HK2, HH2, HW2⟩
                  | exact ⟨_, .int .i64 ((i : Int) + 1), _, _, _, _, _, _, _, _, _, _, _, ⟨i + 1, us, _, _, by go_num, by omega, by omega, HK2, HH2, HW2⟩, rfl⟩
              case measure => first | (simp [intOf]; done) | (simp [intOf]; omega)
            · have hi2 : i = 86 := by omega
              subst hi2
              have HE2 := Aside0.mk ((by have := HK.out; simpa [kanaFrom_zero] using this : vs = zs ++ kanaFrom 9505 12449 0 86).trans (congrArg (· ++ kanaFrom 9505 12449 0 86) HE.out))
              clear HK HE
              have HE := HE2
              clear HE2 hlt hi
              go_wp2
              first | go_end0 | ((try simp only [Exit.inBlock, Exit.then]); refine bodyPost_ret (results_tmp rfl _ _ _) rfl ?_)
              exact ⟨vs, _, _, rfl, HH.out, HW.out, HE.out.trans (by kernel_rfl)⟩

def api_Codes.tbl : List S38 := codesAll
def api_Codes.f : Option (List S38) := some codesAll
theorem api_Codes.calls (r : List S38) (w : World) (h : api_Codes.f = some r) :
    Calls Try.prog 16 #[] w fun e w' => ∃ v0_ : Value, e = .returned (v0_) ∧ Kd.R k38 38 w' w.heap.size (fun _ => True) v0_ r ∧ Below w.heap.size w w' := by
  obtain rfl := Option.some.inj h
  refine (codes_any w).mono ?_
  rintro e w' ⟨ys, A, c, rfl, hH, hb, rfl⟩
  exact ⟨_, rfl, Kd.R_lower hH.row (by omega), hb⟩
end Go.Proofs.Ytgcdfchchphpjaa.M
