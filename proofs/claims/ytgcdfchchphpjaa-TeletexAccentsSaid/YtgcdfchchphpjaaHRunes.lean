/- Proved here, by hand: api.runes hands back, in new memory, the runes of a string as numbers; for strings of at most 1000000 bytes. -/
import Derived.Test.YtgcdfchchphpjaaM0
import Derived.Lib.OthersKept
import Derived.WalkSmall
import Derived.Lib.RuneCount
namespace Go.Proofs.Ytgcdfchchphpjaa.M
set_option linter.unusedVariables false
set_option linter.unusedSimpArgs false
open Go.RowKit Go.Proofs.YtgcdfchchphpjaaW.PrintWords Go.Proofs.YtgcdfchchphpjaaW.PrintLast Go.Proofs.YtgcdfchchphpjaaW.PrintMore

/-- The runes of s from place pos on, at most k of them. -/
def runesFrom (s : ByteArray) : Nat → Nat → List Int
  | 0, _ => []
  | k + 1, pos => if pos < s.size then ((Utf8.decode s pos).1 : Int) :: runesFrom s k (pos + (Utf8.decode s pos).2) else []
theorem runesFrom_end (s : ByteArray) (k pos : Nat) (h : ¬ pos < s.size) : runesFrom s k pos = [] := by cases k <;> simp [runesFrom, h]
theorem runesFrom_step (s : ByteArray) (k pos : Nat) (h : pos < s.size) : runesFrom s (k + 1) pos = ((Utf8.decode s pos).1 : Int) :: runesFrom s k (pos + (Utf8.decode s pos).2) := by simp [runesFrom, h]
def api_runes.f (a0 : ByteArray) : Option (List Int) := if a0.size ≤ 1000000 then some (runesFrom a0 a0.size 0) else none

theorem R_iterAt {w : World} {base : Nat} {ok : Nat → Prop} {v : Value} {xs : List Int} (h : Kd.R (Kd.int .i64) 3 w base ok v xs) {k : Nat} (hk : k < base) (s : ByteArray) (p : Nat) : Kd.R (Kd.int .i64) 3 (w.iterAt k s p) base ok v xs :=
  Kd.R_mono (Kd.R_move (Kd.R_bound h) (fun j hj => Lib.iterAt_other _ _ _ _ _ (by have := hj.2.1; omega))) (fun _ hj => hj.1)

theorem iterPos_of' {w : World} {k : Nat} {s : ByteArray} {p : Nat} (h : w.heap[k]? = some (.stringIter s p)) : w.iterPos k = p := by simp [World.iterPos, h]
theorem width_pos' (s : ByteArray) (p : Nat) (h : p < s.size) : 1 ≤ (Utf8.decode s p).2 := Lib.decode_width_pos s p h

set_option maxRecDepth 100000 in
set_option maxHeartbeats 2000000 in
theorem api_runes.calls (a0 : ByteArray) (r : List Int) (w : World) (h : api_runes.f a0 = some r) :
    Calls Try.prog 29 #[.string a0] w fun e w' => ∃ v0_ : Value, e = .returned (v0_) ∧ Kd.R (Kd.int .i64) 3 w' w.heap.size (fun _ => True) v0_ r ∧ Below w.heap.size w w' := by
  unfold api_runes.f at h
  split at h
  · rename_i hsz
    have HR := Aside0.mk (Option.some.inj h)
    clear h
    go_enter Try.func29, Try.ntmps29
    go_wp2
    go_loopw [3] (fun v wr => ∃ (pos fuel : Nat) (done : List Int), wr.heap[w.heap.size]? = some (.stringIter a0 pos) ∧ Aside0 (Kd.R (Kd.int .i64) 3 wr (w.heap.size + 1) (fun _ => True) v done) ∧ Below w.heap.size w wr ∧ Aside0 (done ++ runesFrom a0 fuel pos = r) ∧ a0.size ≤ pos + fuel ∧ done.length ≤ pos ∧ w.heap.size + 1 ≤ wr.heap.size) (fun _ wr => a0.size - wr.iterPos w.heap.size)
    case atStart => exact ⟨0, a0.size, [], World.iter_heap w a0 0, ⟨Kd.R_nil _ _ _ _ _⟩, (Below.refl _ _).alloc (Nat.le_refl _) _, ⟨HR.out⟩, by omega, Nat.zero_le _, by show w.heap.size + 1 ≤ (w.heap.push _).size; rw [Array.size_push]; exact Nat.le_refl _⟩
    case round =>
      obtain ⟨pos, fuel, done, hit, hown, hbw, HS, hb, hlen, hsz2⟩ := hrel
      have hpos0 := iterPos_of' hit
      by_cases hp : pos < a0.size
      · have hnx : ∀ ty, (Instr.next (.pointer (some ⟨w.heap.size, 0, none⟩)) true ty).run Try.prog wr = _ := fun ty => Lib.run_next_any_at wr w.heap.size a0 pos ty hit hp
        have hwd := width_pos' a0 pos hp
        obtain ⟨fuel, rfl⟩ : ∃ f', fuel = f' + 1 := ⟨fuel - 1, by omega⟩
        have hit2 := Lib.iterAt_heap wr w.heap.size a0 pos (pos + (Utf8.decode a0 pos).2) hit
        have hbw2 := Lib.below_iterAt hbw (k := w.heap.size) (Nat.le_refl _) a0 (pos + (Utf8.decode a0 pos).2)
        have hown2 := Aside0.mk (R_iterAt hown.out (k := w.heap.size) (by omega) a0 (pos + (Utf8.decode a0 pos).2))
        have HS2 := Aside0.mk ((congrArg (done ++ ·) (runesFrom_step a0 fuel pos hp)).symm.trans HS.out)
        obtain ⟨W1, hW1⟩ : ∃ W1, W1 = wr.iterAt w.heap.size a0 (pos + (Utf8.decode a0 pos).2) := ⟨_, rfl⟩
        have hsz3 : w.heap.size + 1 ≤ W1.heap.size := by rw [hW1, Lib.iterAt_size]; exact hsz2
        rw [← hW1] at hnx hit2 hbw2 hown2
        have hdle : (Utf8.decode a0 pos).1 ≤ 2147483647 := decode_le a0 pos
        have hBlt := (Array.getElem?_eq_some_iff.1 hit2).1
        clear hW1 hit hown hbw HS HR
        generalize (Utf8.decode a0 pos).1 = cp at *
        generalize (Utf8.decode a0 pos).2 = wd at *
        go_wp2_with (first
          | (at_builtin; refine Kd.R_append (Kd.int .i64) (w0 := W1) (w.heap.size + 1) rfl (.tmp 11) (.tmp 14) 22 3 (.int .i64 0) 8 rfl Try.underlying22 info3 rfl (by decide) (by omega) _ done (cp : Int) [.int .i64 (cp : Int)] (fun _ => True) (fun _ => False) rfl rfl ?aP (fun _ hk => hk.elim) ?aF ?aO ?aB ?aS ?aL ?_))
        case aP => exact rfl
        case aF => exact fun _ _ => trivial
        case aO => exact hown2.out
        case aB => exact Below.refl _ _
        case aS => exact hsz3
        case aL => omega
        intro v1 w1 hR hB hg hat
        have hne : some w.heap.size ≠ u3.ownBlock := fun e => by have := own_base hown2.out.2.choose_spec.1 _ e.symm; omega
        have hit3 : w1.heap[w.heap.size]? = some (.stringIter a0 (pos + wd)) := (hg.block _ hBlt hne).trans hit2
        have hsz4 : w.heap.size + 1 ≤ w1.heap.size := Nat.le_trans hsz3 hg.size
        have hb4 : Below w.heap.size w w1 := hbw2.grown hg (by omega) (fun k hk => by have := own_base hown2.out.2.choose_spec.1 _ hk; omega)
        have X := Aside0.mk (And.intro hR (And.intro hit3 hb4))
        clear hR hit3 hb4 hg hat hB hne hit2 hbw2 hown2
        go_wp2
        go_roundw
        case rel => exact ⟨pos + wd, fuel, done ++ [(cp : Int)], X.out.2.1, ⟨X.out.1⟩, X.out.2.2, ⟨by rw [List.append_assoc]; exact HS2.out⟩, by omega, by simp; omega, hsz4⟩
        case measure => rw [iterPos_of' X.out.2.1, hpos0]; omega
      · have hnx : ∀ ty, (Instr.next (.pointer (some ⟨w.heap.size, 0, none⟩)) true ty).run Try.prog wr = _ := fun ty => Lib.run_next_end_at wr w.heap.size a0 pos ty hit hp
        have HS2 : Aside0 (done = r) := ⟨by have := HS.out; rw [runesFrom_end _ _ _ hp, List.append_nil] at this; exact this⟩
        clear HS HR
        go_wp2
        go_ret
        exact ⟨_, rfl, by rw [← HS2.out]; exact Kd.R_lower hown.out (by omega), hbw⟩
  · cases h
end Go.Proofs.Ytgcdfchchphpjaa.M
