/- Proved here, by hand: a straight piece of code (operations without guards, one behind the other) comes to what reckoning it gives; what a literal's cells read as. -/
import Derived.Test.YtgcdfchchphpjaaM0
namespace Go.Proofs.Ytgcdfchchphpjaa.M
set_option linter.unusedVariables false
set_option linter.unusedSimpArgs false
open Go.RowKit Go.Proofs.YtgcdfchchphpjaaW.PrintWords Go.Proofs.YtgcdfchchphpjaaW.PrintLast Go.Proofs.YtgcdfchchphpjaaW.PrintMore

def runOps (P : Program) : List Oper → Act → World → Option (Act × World)
  | [], a, w => some (a, w)
  | o :: rest, a, w =>
    match o.guard with
    | none =>
      match (execOp a.eval o).run P w with
      | .ok (.value v) w' => runOps P rest (a.put o.dst v) w'
      | _ => none
    | some _ => none

theorem wpList_run {P : Program} {ops : Array Oper} {Q : Exit → Act → World → Prop} : ∀ (l : List Oper) (a : Act) (w : World) (a' : Act) (w' : World),
    runOps P l a w = some (a', w') → Q .normal a' w' → wpList P ops Q l a w
  | [], a, w, a', w', h, hq => by
    simp only [runOps, Option.some.injEq, Prod.mk.injEq] at h
    obtain ⟨rfl, rfl⟩ := h
    exact hq
  | o :: rest, a, w, a', w', h, hq => by
    unfold runOps at h
    split at h
    · rename_i hg
      split at h
      · rename_i v w1 hr
        exact Kd.event_run hg hr (wpList_run rest _ _ _ _ h hq)
      · cases h
    · cases h

/-- True: it has returned. -/
def runCode (P : Program) : Code → Act → World → Option (Bool × Act × World)
  | .seq x y, a, w =>
    match runCode P x a w with
    | some (false, a', w') => runCode P y a' w'
    | r => r
  | .region _ ops false, a, w => (runOps P ops.toList a w).map fun p => (false, p.1, p.2)
  | .ret, a, w => some (true, a, w)
  | _, _, _ => none

theorem wp_run {P : Program} : ∀ (c : Code) (Q : Exit → Act → World → Prop) (a : Act) (w : World) (b : Bool) (a' : Act) (w' : World),
    runCode P c a w = some (b, a', w') → Q (if b then .ret else .normal) a' w' → c.wp P Q a w
  | .seq x y, Q, a, w, b, a', w', h, hq => by
    unfold runCode at h
    cases hx : runCode P x a w with
    | none => rw [hx] at h; cases h
    | some r =>
      obtain ⟨b1, a1, w1⟩ := r
      rw [hx] at h
      cases b1 with
      | false => exact wp_seq (wp_run x _ a w false a1 w1 hx (wp_run y Q a1 w1 b a' w' h hq))
      | true =>
        simp only [Option.some.injEq, Prod.mk.injEq] at h
        obtain ⟨rfl, rfl, rfl⟩ := h
        exact wp_seq (wp_run x _ a w true _ _ hx hq)
  | .region id ops false, Q, a, w, b, a', w', h, hq => by
    unfold runCode at h
    cases hr : runOps P ops.toList a w with
    | none => rw [hr] at h; cases h
    | some r =>
      obtain ⟨a1, w1⟩ := r
      rw [hr] at h
      simp only [Option.map_some, Option.some.injEq, Prod.mk.injEq] at h
      obtain ⟨rfl, rfl, rfl⟩ := h
      exact wp_region_list (wpList_run _ _ _ _ _ hr hq)
  | .ret, Q, a, w, b, a', w', h, hq => by
    unfold runCode at h
    simp only [Option.some.injEq, Prod.mk.injEq] at h
    obtain ⟨rfl, rfl, rfl⟩ := h
    exact wp_ret hq
  | .region id ops true, _, _, _, _, _, _, h, _ | .skip, _, _, _, _, _, _, h, _ | .cond _ _ _, _, _, _, _, _, _, h, _ | .block _ _, _, _, _, _, _, _, h, _ | .loop _, _, _, _, _, _, _, h, _
  | .rangeFunc _ _ _ _, _, _, _, _, _, _, h, _ | .exit _, _, _, _, _, _, _, h, _ | .scope _, _, _, _, _, _, _, h, _ | .label _, _, _, _, _, _, _, h, _ | .goto _, _, _, _, _, _, _, h, _ => by simp [runCode] at h

/-- A function that is such a piece of code, with one result. -/
theorem calls_run {P : Program} {f : FuncId} {fn : Func} {c : Code} {args : Array Value} {w W : World} {v : Value} {t : Tmp} (hf : P.funcs[f]? = some fn) (hb : fn.body = some c) (hres : fn.results = #[.tmp t])
    (h : (runCode P c { tmps := args ++ Array.replicate (fn.ntmps - args.size) undef, defers := [] } w).map (fun p => (p.2.1.tmps.getD t undef, p.2.1.defers, p.2.2)) = some (v, [], W)) :
    Calls P f args w fun e w' => e = .returned v ∧ w' = W := by
  obtain ⟨⟨b, a', w'⟩, hr, he⟩ := Option.map_eq_some_iff.1 h
  simp only [Prod.mk.injEq] at he
  obtain ⟨h1, h2, rfl⟩ := he
  refine calls_of_wp hf hb (wp_run c _ _ _ b a' w' hr ?_)
  have hres' := results_tmp hres a'.tmps P w'
  rw [h1] at hres'
  cases b
  · exact bodyPost_end hres' h2 ⟨rfl, rfl⟩
  · exact bodyPost_ret hres' h2 ⟨rfl, rfl⟩

/-- The cells of a row of elements. -/
def flatCells {α : Type} (f : α → List Value) : List α → List Value
  | [] => []
  | x :: l => f x ++ flatCells f l
theorem reps_flat {α : Type} {R : α → List Value → Prop} {size : Nat} {f : α → List Value} (hR : ∀ x, R x (f x)) (hs : ∀ x, (f x).length = size) : ∀ l : List α, Reps R size l (flatCells f l)
  | [] => Reps.none _ _
  | x :: l => by
    have ih := reps_flat hR hs l
    refine ⟨by simp only [flatCells, List.length_append, hs, ih.1, List.length_cons, Nat.add_mul, Nat.one_mul]; omega, fun j p hj => ?_⟩
    cases j with
    | zero =>
      simp only [List.getElem?_cons_zero, Option.some.injEq] at hj
      subst hj
      simp only [flatCells, Nat.zero_mul, List.drop_zero]
      rw [← hs x, List.take_left]
      exact hR x
    | succ j =>
      simp only [List.getElem?_cons_succ] at hj
      have := ih.2 j p hj
      simp only [flatCells]
      rw [Nat.add_mul, Nat.one_mul, Nat.add_comm, ← hs x, ← List.drop_drop, List.drop_left, hs x]
      exact this
theorem R_flat {α : Type} (d : Kd α) (e : Nat) (w : World) (f : α → List Value) (xs : List α) (hM : ∀ x W, d.M W w.heap.size (fun _ => False) x (f x)) (hs : ∀ x, (f x).length = d.sz) (hn : xs.length ≤ 9223372036854775807) :
    Kd.R d e (w.alloc (.cells (flatCells f xs).toArray e)) w.heap.size (fun _ => True) (.slice (some ⟨w.heap.size, 0, none⟩) xs.length xs.length) xs :=
  ⟨fun _ _ => trivial, flatCells f xs, by
    have h2 := World.ownsRow_lit (base := w.heap.size) (e := e) (size := d.sz) w (flatCells f xs).toArray xs.length (Nat.le_refl _) (by simpa [maxLen] using hn) (by simpa using (reps_flat (R := fun _ _ => True) (fun _ => trivial) hs xs).1)
    simpa using h2, reps_flat (fun x => d.M_mono (fun _ h => h.elim) (hM x _)) hs xs⟩

/-! ### a literal of records with a slice of numbers each (type api.Map), reckoned at once -/
def allocInts (e : Nat) (w : World) : List (List Int) → World
  | [] => w
  | r :: t => allocInts e (w.alloc (.cells (flatCells (fun x => [Value.int .i64 x]) r).toArray e)) t
theorem allocInts_below (e : Nat) : ∀ (rs : List (List Int)) (w : World), Below w.heap.size w (allocInts e w rs) ∧ (allocInts e w rs).heap.size = w.heap.size + rs.length
  | [], w => ⟨Below.refl _ _, rfl⟩
  | r :: t, w => by
    obtain ⟨h1, h2⟩ := allocInts_below e t (w.alloc (.cells (flatCells (fun x => [Value.int .i64 x]) r).toArray e))
    have hs : (w.alloc (.cells (flatCells (fun x => [Value.int .i64 x]) r).toArray e)).heap.size = w.heap.size + 1 := by simp
    refine ⟨((Below.refl _ w).alloc (Nat.le_refl _) _).trans (h1.mono (by omega)), ?_⟩
    show (allocInts e _ t).heap.size = _
    rw [h2, hs, List.length_cons]
    omega
theorem wp_seq_run {P : Program} {x y : Code} {Q : Exit → Act → World → Prop} {a a' : Act} {w w' : World} (h : runCode P x a w = some (false, a', w')) (hq : y.wp P Q a' w') : (Code.seq x y).wp P Q a w :=
  wp_seq (wp_run x _ a w false a' w' h hq)
/-- What a computation comes to that only looks into the program and lays new blocks, block by block from number 'base' on. -/
def litRun {α : Type} (P : Program) (base : Nat) : Sem α → List Obj → Option (α × List Obj)
  | .pure a, os => some (a, os)
  | .new o k, os => litRun P base (k (base + os.length)) (os ++ [o])
  | .program k, os => litRun P base (k P) os
  | .mark _ k, os => litRun P base k os
  | _, _ => none
def allocs (w : World) (os : List Obj) : World := os.foldl World.alloc w
theorem allocs_size : ∀ (os : List Obj) (w : World), (allocs w os).heap.size = w.heap.size + os.length
  | [], w => rfl
  | o :: t, w => by
    show (allocs (w.alloc o) t).heap.size = _
    rw [allocs_size t, World.size_alloc, List.length_cons]
    omega
theorem litRun_sound {α : Type} {P : Program} (w : World) : ∀ (s : Sem α) (os : List Obj) (a : α) (os' : List Obj), litRun P w.heap.size s os = some (a, os') → s.run P (allocs w os) = .ok a (allocs w os')
  | .pure x, os, a, os', h => by
    simp only [litRun, Option.some.injEq, Prod.mk.injEq] at h
    obtain ⟨rfl, rfl⟩ := h
    rfl
  | .new o k, os, a, os', h => by
    have ih := litRun_sound w (k (w.heap.size + os.length)) (os ++ [o]) a os' h
    have e : allocs w (os ++ [o]) = (allocs w os).alloc o := by simp [allocs, List.foldl_append]
    rw [e] at ih
    show (k (allocs w os).heap.size).run P ((allocs w os).alloc o) = _
    rw [allocs_size]
    exact ih
  | .program k, os, a, os', h => litRun_sound w (k P) os a os' h
  | .mark _ k, os, a, os', h => litRun_sound w k os a os' h
  | .load _ _ _, _, _, _, h | .store _ _ _ _, _, _, _, h | .shape _ _, _, _, _, h | .freeze _ _ _, _, _, _, h | .frozen _ _, _, _, _, h | .getObj _ _, _, _, _, h | .setObj _ _ _, _, _, _, h | .choose _ _, _, _, _, h | .sys _ _, _, _, _, h | .halt _, _, _, _, h => by simp [litRun] at h

def litOps (P : Program) (base : Nat) : List Oper → Act → List Obj → Option (Act × List Obj)
  | [], a, os => some (a, os)
  | o :: rest, a, os =>
    match o.guard with
    | none =>
      match litRun P base (execOp a.eval o) os with
      | some (.value v, os') => litOps P base rest (a.put o.dst v) os'
      | _ => none
    | some _ => none
theorem wpList_lit {P : Program} {ops : Array Oper} {Q : Exit → Act → World → Prop} (w : World) : ∀ (l : List Oper) (a : Act) (os : List Obj) (a' : Act) (os' : List Obj),
    litOps P w.heap.size l a os = some (a', os') → Q .normal a' (allocs w os') → wpList P ops Q l a (allocs w os)
  | [], a, os, a', os', h, hq => by
    simp only [litOps, Option.some.injEq, Prod.mk.injEq] at h
    obtain ⟨rfl, rfl⟩ := h
    exact hq
  | o :: rest, a, os, a', os', h, hq => by
    unfold litOps at h
    split at h
    · rename_i hg
      split at h
      · rename_i v w1 hr
        exact Kd.event_run hg (litRun_sound w _ _ _ _ hr) (wpList_lit w rest _ _ _ _ h hq)
      · cases h
    · cases h
theorem allocs_ints (e : Nat) : ∀ (rs : List (List Int)) (w : World) (o : Obj), allocs w (rs.map (fun r => Obj.cells (flatCells (fun x => [Value.int .i64 x]) r).toArray e) ++ [o]) = (allocInts e w rs).alloc o
  | [], w, o => rfl
  | r :: t, w, o => allocs_ints e t (w.alloc (.cells (flatCells (fun x => [Value.int .i64 x]) r).toArray e)) o
end Go.Proofs.Ytgcdfchchphpjaa.M
