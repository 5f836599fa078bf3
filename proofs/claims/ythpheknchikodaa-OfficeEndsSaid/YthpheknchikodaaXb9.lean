/- Contracts of functions that the laws reach, part Xb9. Conditions: each theorem names its own. -/
import Derived.Laws.Tables
import Derived.Laws.Cells
import Derived.Laws.EntriesVeiled
import Derived.Walk3
import Derived.Test.YthpheknchikodaaXb1
import Derived.Test.YthpheknchikodaaXb7
import Derived.Test.YthpheknchikodaaXb8
import Derived.Test.YthpheknchikodaaXb3
/- A variable of many cells, in a block of its own, stored and loaded as a whole. Conditions: the value has as many cells as the variable. -/
namespace Go.Proofs.Ythpheknchikodaa.P
open Go.RowKit Go.Proofs.YthpheknchikodaaW.PrintWords Go.Proofs.YthpheknchikodaaW.PrintLast
set_option linter.unusedVariables false
set_option linter.unusedSimpArgs false

theorem run_store_whole {P : Program} (w : World) (t : TypeId) (g n : Nat) (cs vs : Array Value) (hsz : ∀ W, (Go.sizeOf t).run P W = .ok n W) (hb : w.heap[g]? = some (.cells cs t (0, 0))) (h1 : cs.size = n) (h2 : vs.size = n) (h3 : ∀ v ∈ vs.toList, v.oneCell' = true) :
    (Instr.storeAt t (.pointer (some ⟨g, 0, none⟩)) (.agg vs)).run P w = .ok () (w.setRow g vs) := by
  have h := run_storeCells_from (P := P) g t vs.toList 0 cs w hb (by simp [h1, h2]) h3
  simp only [List.take_zero, List.nil_append] at h
  simp [Instr.storeAt, storeVar, Instr.sureAddr, hsz, Result.andThen, Value.cells, h2]
  simpa using h
theorem run_load_whole {P : Program} (w : World) (t : TypeId) (g n : Nat) (vs : Array Value) (hag : ∀ W, (isAgg t).run P W = .ok true W) (hsz : ∀ W, (Go.sizeOf t).run P W = .ok n W) (hb : w.heap[g]? = some (.cells vs t (0, 0))) (h2 : vs.size = n) :
    (Instr.loadAt t (.pointer (some ⟨g, 0, none⟩))).run P w = .ok (.agg vs) w := by
  have h := run_loadCellsFrom (P := P) (w := w) ⟨g, 0, none⟩ (fun j => vs.getD j undef) n 0 #[] (fun j hj => by
    rw [Nat.zero_add, add_plain]
    simp [World.cell?, hb, Array.getD, show j < vs.size by omega])
  have e : (((List.range n).map fun j => vs.getD (0 + j) undef).toArray) = vs := by
    apply Array.ext
    · simp [h2]
    · intro i h3 h4
      simp [Array.getD, h4]
  rw [e] at h
  simp only [Array.empty_append] at h
  simp [Instr.loadAt, loadVar, Instr.sureAddr, hag, hsz, Result.andThen, loadCells]
  simp [h]
section
variable {P : Program} {ops : Array Oper} {rest : List Oper} {o : Oper} {a : Act} {Q : Exit → Act → World → Prop}
/-- Is it this operation? -/
theorem gate_op {w : World} {x : Op} (_h : o.op = x) (h : wpList P ops Q (o :: rest) a w) : wpList P ops Q (o :: rest) a w := h
/-- The store, at the operation: the world behind it has a name, and what is known of it. -/
theorem store_whole (w : World) (hg : o.guard = none) (t : TypeId) (x y : Operand) (hop : o.op = .store t x y) (g n : Nat) (cs vs : Array Value) (hx : a.eval x = .pointer (some ⟨g, 0, none⟩)) (hy : a.eval y = .agg vs)
    (hsz : ∀ W, (Go.sizeOf t).run P W = .ok n W) (hb : w.heap[g]? = some (.cells cs t (0, 0))) (h1 : cs.size = n) (h2 : vs.size = n) (h3 : ∀ v ∈ vs.toList, v.oneCell' = true)
    (hK : ∀ w', w'.heap[g]? = some (.cells vs t (0, 0)) → w.grownBy w' (some g) → w'.heap.size = w.heap.size → wpList P ops Q rest (a.put o.dst undef) w') : wpList P ops Q (o :: rest) a w := by
  refine wpList_plain hg fun K' hK' => ?_
  have hrun := run_store_whole (P := P) w t g n cs vs hsz hb h1 h2 h3
  unfold Oper.wp
  simp [execOp, hop, hx, hy, hrun, Result.andThen]
  refine hK' _ _ (hK _ ?_ ⟨rfl, rfl, rfl, by simp [World.setRow], fun i _ hi => ?_⟩ (by simp [World.setRow]))
  · simp [World.setRow, Array.getElem?_modify, hb]
  · have : g ≠ i := fun e => hi (by rw [e])
    simp [World.setRow, Array.getElem?_modify, this]
/-- The load, at the operation. -/
theorem load_whole (w : World) (hg : o.guard = none) (t : TypeId) (x : Operand) (hop : o.op = .load t x) (g n : Nat) (vs : Array Value) (hx : a.eval x = .pointer (some ⟨g, 0, none⟩))
    (hag : ∀ W, (isAgg t).run P W = .ok true W) (hsz : ∀ W, (Go.sizeOf t).run P W = .ok n W) (hb : w.heap[g]? = some (.cells vs t (0, 0))) (h2 : vs.size = n)
    (hK : wpList P ops Q rest (a.put o.dst (.agg vs)) w) : wpList P ops Q (o :: rest) a w := by
  refine wpList_plain hg fun K' hK' => ?_
  have hrun := run_load_whole (P := P) w t g n vs hag hsz hb h2
  unfold Oper.wp
  simp [execOp, hop, hx, hrun, Result.andThen]
  exact hK' _ _ hK
end
end Go.Proofs.Ythpheknchikodaa.P

/- The walk of (Roll).holds: who holds an office on a day. Conditions: the persons of the terms are less than 20. -/
namespace Go.Proofs.Ythpheknchikodaa.P
open Go.RowKit Go.Shelf Go.Proofs.YthpheknchikodaaW.PrintWords Go.Proofs.YthpheknchikodaaW.PrintLast
attribute [local go_sem] Oper.semAt_some
set_option linter.unusedVariables false
set_option linter.unusedSimpArgs false

/-- What a term adds. -/
def heldStep (day : Int) (h : Int × List Bool) (x : S122) : Int × List Bool :=
  (if sureB day x then x.f0.f0 else h.1, if maybeB day x then h.2.set x.f0.f0.toNat true else h.2)
def heldOf (day : Int) (l : List S122) : Int × List Bool := l.foldl (heldStep day) (-1, List.replicate 20 false)
def heldCells (h : Int × List Bool) : Array Value := (Value.int .i64 h.1 :: h.2.map Value.bool).toArray
theorem held_new (w : World) (a b c d : Obj) : ((((w.alloc a).alloc b).alloc c).alloc d).heap[w.heap.size + 3]? = some d := by
  have h := World.alloc_heap_new (((w.alloc a).alloc b).alloc c) d
  simp only [World.size_alloc] at h
  exact h
theorem blk_alloc {w : World} {g : Nat} {o : Obj} (h : w.heap[g]? = some o) (O : Obj) : (w.alloc O).heap[g]? = some o := (((Below.refl w.heap.size w).alloc (Nat.le_refl _) O).block g (blk_lt h)).trans h
theorem held_facts {w w4 : World} {a b c d : Obj} (hg : ((((w.alloc a).alloc b).alloc c).alloc d).grownBy w4 (some (w.heap.size + 3))) (hz : w4.heap.size = ((((w.alloc a).alloc b).alloc c).alloc d).heap.size) :
    w4.heap.size = w.heap.size + 4 ∧ Below w.heap.size w w4 ∧ w4.heap[w.heap.size]? = some a ∧ w4.heap[w.heap.size + 1]? = some b ∧ w4.heap[w.heap.size + 2]? = some c := by
  have h1 : ((((w.alloc a).alloc b).alloc c).alloc d).heap[w.heap.size]? = some a := blk_alloc (blk_alloc (blk_alloc (World.alloc_heap_new w a) b) c) d
  have h2 : ((((w.alloc a).alloc b).alloc c).alloc d).heap[w.heap.size + 1]? = some b := by
    have h := World.alloc_heap_new (w.alloc a) b
    rw [World.size_alloc] at h
    exact blk_alloc (blk_alloc h c) d
  have h3 : ((((w.alloc a).alloc b).alloc c).alloc d).heap[w.heap.size + 2]? = some c := by
    have h := World.alloc_heap_new ((w.alloc a).alloc b) c
    simp only [World.size_alloc] at h
    exact blk_alloc h d
  refine ⟨by rw [hz]; simp, ?_, ?_, ?_, (hg.block _ (by simp; try omega) (by simp)).trans h3⟩
  · exact pw_below_grown ((((Below.refl w.heap.size w).alloc (Nat.le_refl _) a).alloc (by simp) b).alloc (by simp; omega) c |>.alloc (by simp; try omega) d) (some (w.heap.size + 3)) (by simp; try omega) hg (fun k e => by cases e; simp)
  · exact (hg.block _ (by simp; try omega) (by simp)).trans h1
  · exact (hg.block _ (by simp; try omega) (by simp)).trans h2
theorem blk2 {w : World} {g : Nat} {cs : Array Value} {t : TypeId} (O O' : Obj) (h : w.heap[g]? = some (.cells cs t (0, 0))) (j : Nat) : ((w.alloc O).alloc O').cell? ⟨g, j, none⟩ = cs[j]? :=
  blk_cell (blk_alloc (blk_alloc h O) O') j
def heldInv (w : World) (day : Int) (h : Int × List Bool) (W : World) : Prop :=
  W.heap[w.heap.size + 1]? = some (.cells #[.int .i64 day] 3 (0, 0)) ∧ W.heap[w.heap.size + 2]? = some (.cells #[.int .i64 0, .bool false, .bool false, .bool false, .bool false, .bool false, .bool false, .bool false, .bool false, .bool false, .bool false, .bool false, .bool false, .bool false, .bool false, .bool false, .bool false, .bool false, .bool false, .bool false, .bool false] 114 (0, 0)) ∧
  W.heap[w.heap.size + 3]? = some (.cells (heldCells h) 114 (0, 0)) ∧ W.heap[w.heap.size + 4]? = some (.cells #[.func (.func 74) #[] #[.pointer (some ⟨w.heap.size + 1, 0, none⟩)]] 144 (0, 0)) ∧
  W.heap[w.heap.size + 5]? = some (.cells #[.func (.func 75) #[] #[.pointer (some ⟨w.heap.size + 1, 0, none⟩)]] 144 (0, 0)) ∧ Below w.heap.size w W
theorem heldInv.own (w : World) (day : Int) (B : Nat) (hB : w.heap.size ≤ B) {β : Type} (f : β → Int × List Bool) : OwnFrom B (fun s W => heldInv w day (f s) W) := by
  intro s W W' row ⟨h1, h2, h3, h4, h5, h6⟩ hg hr
  have hne : ∀ {j : Nat} {cs : Array Value} {t : TypeId}, W.heap[j]? = some (.cells cs t (0, 0)) → some j ≠ row := by
    intro j cs t hj e
    obtain ⟨_, o, ho, hc⟩ := hr j e.symm
    rw [hj] at ho
    cases ho
    cases hc
  exact ⟨blk_grown h1 hg (hne h1), blk_grown h2 hg (hne h2), blk_grown h3 hg (hne h3), blk_grown h4 hg (hne h4), blk_grown h5 hg (hne h5), pw_below_grown h6 row h6.size hg (fun k e => Nat.le_trans hB (hr k e).1)⟩
theorem heldCells_set0 (h : Int × List Bool) (v : Int) : (heldCells h).setIfInBounds 0 (.int .i64 v) = heldCells (v, h.2) := by simp [heldCells]
theorem heldCells_set1 (h : Int × List Bool) (i : Nat) : (heldCells h).setIfInBounds (1 + i) (.bool true) = heldCells (h.1, h.2.set i true) := by rw [Nat.add_comm 1 i]; simp [heldCells, List.map_set]
/-- What stands while a body runs. -/
def HS (w : World) (day : Int) (h : Int × List Bool) (Bx : Nat) (x : S122) (W : World) : Prop := heldInv w day h W ∧ W.heap[Bx]? = some (.cells (enc122 x).toArray 122 (0, 0))
theorem HS.below {w : World} {day : Int} {h : Int × List Bool} {Bx : Nat} {x : S122} {W W' : World} (s : HS w day h Bx x W) (hb : Below W.heap.size W W') : HS w day h Bx x W' := by
  obtain ⟨⟨h1, h2, h3, h4, h5, h6⟩, h7⟩ := s
  exact ⟨⟨(hb.block _ (blk_lt h1)).trans h1, (hb.block _ (blk_lt h2)).trans h2, (hb.block _ (blk_lt h3)).trans h3, (hb.block _ (blk_lt h4)).trans h4, (hb.block _ (blk_lt h5)).trans h5, below_then h6 h6.size hb⟩, (hb.block _ (blk_lt h7)).trans h7⟩
theorem HS.set {w : World} {day : Int} {h h' : Int × List Bool} {Bx : Nat} {x : S122} {W : World} (s : HS w day h Bx x W) (i : Nat) (u : Value) (he : (heldCells h).setIfInBounds i u = heldCells h') : HS w day h' Bx x (W.setCell ⟨w.heap.size + 3, i, none⟩ u) := by
  obtain ⟨⟨h1, h2, h3, h4, h5, h6⟩, h7⟩ := s
  have hne := blk_ne h7 h3 (by decide)
  exact ⟨⟨blk_far h1 (by simp) u, blk_far h2 (by simp) u, by rw [← he]; exact blk_set h3 i u, blk_far h4 (by simp) u, blk_far h5 (by simp) u, h6.setCell (p := ⟨w.heap.size + 3, i, none⟩) (by simp) u⟩, blk_far h7 hne u⟩
theorem HS.facts {w : World} {day : Int} {h : Int × List Bool} {Bx : Nat} {x : S122} {W : World} (s : HS w day h Bx x W) :
    W.cell? ⟨w.heap.size + 4, 0, none⟩ = some (.func (.func 74) #[] #[.pointer (some ⟨w.heap.size + 1, 0, none⟩)]) ∧ W.cell? ⟨w.heap.size + 5, 0, none⟩ = some (.func (.func 75) #[] #[.pointer (some ⟨w.heap.size + 1, 0, none⟩)]) ∧ W.cell? ⟨w.heap.size + 1, 0, none⟩ = some (.int .i64 day) ∧
    (∀ j, W.cell? ⟨Bx, j, none⟩ = (enc122 x).toArray[j]?) ∧ W.cell? ⟨w.heap.size + 3, 0, none⟩ = some (.int .i64 h.1) ∧ (∀ j, W.frozen? ⟨w.heap.size + 3, j, none⟩ = false) ∧ (∀ i, i < h.2.length → ∃ u, W.cell? ⟨w.heap.size + 3, 1 + i, none⟩ = some (.bool u)) := by
  obtain ⟨⟨h1, h2, h3, h4, h5, h6⟩, h7⟩ := s
  refine ⟨blk_cell h4 0, blk_cell h5 0, blk_cell h1 0, fun j => blk_cell h7 j, (blk_cell h3 0).trans (by simp [heldCells]), fun j => blk_frozen h3 j, fun i hi => ⟨h.2[i], (blk_cell h3 _).trans ?_⟩⟩
  rw [Nat.add_comm 1 i]
  simp [heldCells, hi]
/-- What a body may do. -/
def Okay (B b g : Nat) (W W' : World) : Prop := KeepsFrom B W W' ∧ Keeps2 b g W W' ∧ W.heap.size ≤ W'.heap.size
theorem Okay.trans {B b g : Nat} {X Y Z : World} (h : Okay B b g X Y) (k : Okay B b g Y Z) : Okay B b g X Z := ⟨h.1.trans k.1, h.2.1.trans k.2.1, Nat.le_trans h.2.2 k.2.2⟩
theorem Okay.below {B b g : Nat} {W W' : World} (h : Below W.heap.size W W') (h1 : b < W.heap.size) (h2 : g < W.heap.size) : Okay B b g W W' := ⟨KeepsFrom.of_grownBy (grown_of_below h none) (fun _ e => by cases e), Keeps2.below h h1 h2, h.size⟩
theorem Okay.set {B b g o : Nat} (W : World) (i : Nat) (u : Value) (h1 : b ≠ o) (h2 : g ≠ o) : Okay B b g W (W.setCell ⟨o, i, none⟩ u) := ⟨(KeepsOthers.setCell W ⟨o, i, none⟩ u).from B, ⟨Below.heap_setCell W ⟨o, i, none⟩ u b h1, Below.heap_setCell W ⟨o, i, none⟩ u g h2⟩, by simp [World.setCell]⟩
theorem held_len (day : Int) (l : List S122) : ∀ h : Int × List Bool, (l.foldl (heldStep day) h).2.length = h.2.length := by
  induction l with
  | nil => intro h; rfl
  | cons x l ih =>
    intro h
    rw [List.foldl_cons, ih]
    unfold heldStep
    dsimp only
    split <;> simp
theorem heldCells_size (day : Int) (l : List S122) : (heldCells (heldOf day l)).size = 21 := by
  have h := held_len day l (-1, List.replicate 20 false)
  simp only [List.length_replicate] at h
  unfold heldCells heldOf
  rw [List.size_toArray, List.length_cons, List.length_map, h]
theorem heldCells_one (h : Int × List Bool) : ∀ v ∈ (heldCells h).toList, v.oneCell' = true := by
  intro v hv
  simp [heldCells] at hv
  rcases hv with rfl | ⟨⟨_, rfl⟩ | ⟨_, rfl⟩⟩ <;> simp [Value.oneCell']
theorem run_loadVar_whole {P : Program} (w : World) (t : TypeId) (g n : Nat) (vs : Array Value) (hag : ∀ W, (isAgg t).run P W = .ok true W) (hsz : ∀ W, (Go.sizeOf t).run P W = .ok n W) (hb : w.heap[g]? = some (.cells vs t (0, 0))) (h2 : vs.size = n) :
    (loadVar t ⟨g, 0, none⟩).run P w = .ok (.agg vs) w := by
  have h := run_load_whole (P := P) w t g n vs hag hsz hb h2
  simpa [Instr.loadAt, Instr.sureAddr, Result.andThen] using h
theorem R_inblock {w : World} {base b : Nat} {ok : Nat → Prop} {v : Value} {l : List S122} (h : Kd.R k122 122 w base ok v l) (hb : base ≤ b) (hb2 : b < w.heap.size) :
    ∃ A c g, v = .slice A l.length c ∧ base ≤ g ∧ g < w.heap.size ∧ InBlock w g A l := by
  obtain ⟨A, c, rfl, hl, hC⟩ := Kd.R_reads h
  obtain ⟨inner, ho⟩ := Kd.R_own h
  rcases ho.2 with ⟨e, _⟩ | ⟨g, cap, cur, e, hg, hh, r⟩
  · exact ⟨A, c, b, rfl, hb, hb2, hC, fun ad e' => by subst e'; cases e⟩
  · exact ⟨A, c, g, rfl, hg, blk_lt hh, hC, fun ad e' => by subst e'; cases e; rfl⟩
set_option maxHeartbeats 4000000 in
set_option maxRecDepth 100000 in
theorem holds_calls (k : Nat) (p o : Int) (A2 : Option Addr) (c2 : Nat) (ts : List S59) (A3 : Option Addr) (c3 : Nat) (ns : List S109) (office day : Int) (l : List S122) (w : World)
    (hr2 : Kd.C k59 w A2 ts.length ts) (hc2 : ts.length ≤ c2) (hr3 : Kd.C k109 w A3 ns.length ns) (hc3 : ns.length ≤ c3) (ht : office_Roll_terms.f k p o ts ns office = some l) (hlen : l.length ≤ 1000000000) (hP : ∀ x ∈ l, 0 ≤ x.f0.f0 ∧ x.f0.f0 < 20) :
    Calls Try.prog 58 #[.agg #[.int .i64 p, .int .i64 o, .slice A2 ts.length c2, .slice A3 ns.length c3], .int .i64 office, .int .i64 day] w fun e w' => e = .returned (.agg (heldCells (heldOf day l))) ∧ Below w.heap.size w w' := by
  have HR2 := Aside0.mk hr2
  have HR3 := Aside0.mk hr3
  have HC2 := Aside0.mk hc2
  have HC3 := Aside0.mk hc3
  have HT := Aside0.mk ht
  have HPP := Aside0.mk hP
  have HL := Aside0.mk hlen
  clear hr2 hr3 hc2 hc3 ht hP hlen
  have hu35 := Try.underlying35
  have hu114 := Try.underlying114
  have hu122 := Try.underlying122
  refine (callsIn_wide (n := 9)).1 ?_
  refine callsIn_of_wp_marks Try.func58 rfl trivial ?_ rfl
  simp only [Try.ntmps58, List.size_toArray, List.length_cons, List.length_nil, Nat.reduceAdd, Nat.reduceSub, Array.replicate_succ, Array.replicate_zero, List.push_toArray, List.append_toArray, List.nil_append, List.cons_append]
  rw [wpIn_wide]
  go_wp2_with ((with_reducible refine gate_op (x := .store 114 (.tmp 7) (.tmp 11)) rfl ?_); go_loud (refine store_whole _ rfl 114 (.tmp 7) (.tmp 11) rfl (w.heap.size + 3) 21 #[.int .i64 0, .bool false, .bool false, .bool false, .bool false, .bool false, .bool false, .bool false, .bool false, .bool false, .bool false, .bool false, .bool false, .bool false, .bool false, .bool false, .bool false, .bool false, .bool false, .bool false, .bool false] #[.int .i64 (-1), .bool false, .bool false, .bool false, .bool false, .bool false, .bool false, .bool false, .bool false, .bool false, .bool false, .bool false, .bool false, .bool false, .bool false, .bool false, .bool false, .bool false, .bool false, .bool false, .bool false] rfl rfl Try.sizeOf114 (held_new w _ _ _ _) rfl rfl (by simp [Value.oneCell']) ?_); intro w4 hb4 hg4 hz4; obtain ⟨hs4, hB4, hR4, hD4, hZ4⟩ := held_facts hg4 hz4; have HB4 := Aside0.mk hb4; have HBB := Aside0.mk hB4; have hr0 := fun O O' => blk2 O O' hR4 0; have hr1 := fun O O' => blk2 O O' hR4 1; have hr2 := fun O O' => blk2 O O' hR4 2; have hr3 := fun O O' => blk2 O O' hR4 3; have HR4 := Aside0.mk hR4; have HD4 := Aside0.mk hD4; have HZ4 := Aside0.mk hZ4; clear hb4 hg4 hz4 hB4 hR4 hD4 hZ4)
  refine (office_Roll_terms.calls k p o A2 c2 ts A3 c3 ns office l _ (Kd.C_below HR2.out (below_alloc (below_alloc HBB.out _) _)) HC2.out (Kd.C_below HR3.out (below_alloc (below_alloc HBB.out _) _)) HC3.out HT.out).mono ?_
  rintro e w5 ⟨v0, b, rfl, hb5, hlb, hR5, hB5⟩
  obtain ⟨A, c, g, rfl, hg1, hg2, hC⟩ := R_inblock hR5 hlb (blk_lt hb5)
  have HI0 : heldInv w day (-1, List.replicate 20 false) w5 := by
    have h4 := World.alloc_heap_new w4 (.cells #[.func (.func 74) #[] #[.pointer (some ⟨w.heap.size + 1, 0, none⟩)]] 144)
    have h5 := World.alloc_heap_new (w4.alloc (.cells #[.func (.func 74) #[] #[.pointer (some ⟨w.heap.size + 1, 0, none⟩)]] 144)) (.cells #[.func (.func 75) #[] #[.pointer (some ⟨w.heap.size + 1, 0, none⟩)]] 144)
    rw [World.size_alloc, hs4] at h5
    rw [hs4] at h4
    refine ⟨(hB5.block _ (by simp; omega)).trans (blk_alloc (blk_alloc HD4.out _) _), (hB5.block _ (by simp; omega)).trans (blk_alloc (blk_alloc HZ4.out _) _), (hB5.block _ (by simp; omega)).trans (blk_alloc (blk_alloc HB4.out _) _), (hB5.block _ (by simp; omega)).trans (blk_alloc h4 _), (hB5.block _ (by simp; omega)).trans h5, below_then (below_alloc (below_alloc HBB.out _) _) (by simp; omega) hB5⟩
  have HI0 := Aside0.mk HI0
  have HR5 := Aside0.mk hR5
  have HB5 := Aside0.mk hB5
  have hs5 : w.heap.size + 6 ≤ w5.heap.size := by
    have h := hB5.size
    simp only [World.size_alloc, hs4] at h
    exact h
  have hlb' : w.heap.size + 6 ≤ b := by
    have h := hlb
    simp only [World.size_alloc, hs4] at h
    exact h
  have hlg' : w.heap.size + 6 ≤ g := by
    have h := hg1
    simp only [World.size_alloc, hs4] at h
    exact h
  have Hb5 := Aside0.mk hb5
  have HC := Aside0.mk hC
  have Hg2 := Aside0.mk hg2
  clear hr0 hr1 hr2 hr3 hR5 hB5 hb5 hC hg1 hg2 hlb
  obtain ⟨L, hL⟩ : ∃ L : List {x : S122 // 0 ≤ x.f0.f0 ∧ x.f0.f0 < 20}, l = L.map Subtype.val := ⟨l.attachWith _ HPP.out, by rw [List.attachWith_map_subtype_val]⟩
  have HLL := Aside0.mk hL
  clear hL
  go_wp2
  simp only [Nat.add_assoc, Nat.reduceAdd]
  rw [← wpIn_wide (n := 9)]
  refine wpIn_rangeFunc_ownH (F := Fence.wide) (n := 9) rfl (by omega) (gf := 100) (lb := #[.pointer (some ⟨b, 0, none⟩)]) rfl trivial (enters_of Try.func100 (by kernel_rfl) rfl)
    (iter_stops Subtype.val L Fence.wide 8 trivial rfl (by omega) b g c A l HLL.out HL.out w5 Hb5.out Hg2.out HC.out)
    (fun h1 h2 => ⟨h1.1.trans h2.1, Nat.le_trans h1.2 h2.2⟩) (fun W lw o o' hl _ _ _ => ⟨Keeps2.putObj (blk_lt Hb5.out) Hg2.out W lw o o' hl, by simp⟩) (Below.refl _ _) (fun _ => rfl)
    (fun pre W => heldInv w day ((pre.map Subtype.val).foldl (heldStep day) (-1, List.replicate 20 false)) W ∧ w5.heap.size ≤ W.heap.size)
    (fun _ _ _ => False)
    (OwnFrom.and (heldInv.own w day _ (by omega) _) (fun _ W W' row hs hg _ => Nat.le_trans hs hg.size))
    (fun _ _ _ _ _ hs _ _ => hs)
    ⟨HI0.out, Nat.le_refl _⟩
    (fun x a' W => ∃ Bx, a' = { tmps := #[.agg #[.int .i64 p, .int .i64 o, .slice A2 ts.length c2, .slice A3 ns.length c3], .int .i64 office, .int .i64 day, .pointer (some ⟨w.heap.size, 0, none⟩), undef, .pointer (some ⟨w.heap.size + 1, 0, none⟩), .pointer (some ⟨w.heap.size + 2, 0, none⟩), .pointer (some ⟨w.heap.size + 3, 0, none⟩), .pointer (some ⟨w.heap.size + 4, 0, none⟩), .pointer (some ⟨w.heap.size + 5, 0, none⟩), .pointer (some ⟨Bx, 0, none⟩), .agg #[.int .i64 (-1), .bool false, .bool false, .bool false, .bool false, .bool false, .bool false, .bool false, .bool false, .bool false, .bool false, .bool false, .bool false, .bool false, .bool false, .bool false, .bool false, .bool false, .bool false, .bool false, .bool false], .func (.func 74) #[] #[.pointer (some ⟨w.heap.size + 1, 0, none⟩)], .func (.func 75) #[] #[.pointer (some ⟨w.heap.size + 1, 0, none⟩)], .agg #[.int .i64 p, .int .i64 o, .slice A2 ts.length c2, .slice A3 ns.length c3], .int .i64 office, .func (.func 100) #[] #[.pointer (some ⟨b, 0, none⟩)], .agg (enc122 x.1).toArray, undef, undef, undef, undef, undef, undef, undef, undef, undef, undef, undef, undef, undef, undef, undef, undef], defers := [] } ∧ W.heap[Bx]? = some (.cells (enc122 x.1).toArray 122 (0, 0)) ∧ w5.heap.size ≤ Bx)
    (fun x a' => fun _ W W' row hs hg hr => ?ax) ?assign ?body ?done ?stop
  case ax =>
    obtain ⟨Bx, e1, e2, e3⟩ := hs
    refine ⟨Bx, e1, blk_grown e2 hg (fun e => ?_), e3⟩
    obtain ⟨_, o, ho, hc⟩ := hr Bx e.symm
    rw [e2] at ho
    cases ho
    cases hc
  case stop =>
    rintro D cc pre W _ _ h _
    exact h.elim
  case assign =>
    intro lp pre x W K hI hK
    have hI' := Aside0.mk hI.1
    have hs := hI.2
    have HK := Aside0.mk hK
    clear hI hK
    simp only [enc122]
    gi_wp2
    refine HK.out _ _ ((KeepsOthers.alloc W _).from _) ⟨Keeps2.below (below_alloc (Below.refl _ _) _) (by have := blk_lt Hb5.out; omega) (by have := Hg2.out; omega), by simp⟩ ⟨(heldInv.own w day w5.heap.size (by omega) (fun pre : List {x : S122 // 0 ≤ x.f0.f0 ∧ x.f0.f0 < 20} => (pre.map Subtype.val).foldl (heldStep day) (-1, List.replicate 20 false))).alloc _ hI'.out, by simp; omega⟩ ⟨W.heap.size, rfl, World.alloc_heap_new _ _, hs⟩
  case body =>
    rintro lp pre x a' W hlw hlr ⟨hI, hs⟩ ⟨Bx, rfl, hx, hBx⟩ hpl
    obtain ⟨hx0, hx1⟩ := x.2
    obtain ⟨h, hh⟩ : ∃ h, h = (pre.map Subtype.val).foldl (heldStep day) (-1, List.replicate 20 false) := ⟨_, rfl⟩
    rw [← hh] at hI
    have HH := Aside0.mk hh
    clear hh hlr
    have hS : HS w day h Bx x.1 W := ⟨hI, hx⟩
    clear hI hx
    obtain ⟨c1, c2, c3, c4, c5, c6, c7⟩ := hS.facts
    have HSW := Aside0.mk hS
    clear c2 c5 c6 c7 hS
    simp only [enc122] at c4
    simp only [enc122]
    have HLEN := Aside0.mk (show x.1.f0.f0.toNat < h.2.length by rw [HH.out, held_len, List.length_replicate]; omega)
    have hbW : b < W.heap.size := Nat.lt_of_lt_of_le (blk_lt Hb5.out) hs
    have hgW : g < W.heap.size := Nat.lt_of_lt_of_le Hg2.out hs
    replace hx0 := eq_true hx0
    replace hx1 := eq_true hx1
    cases hsb : sureB day x.1
    · cases hmb : maybeB day x.1
      · -- neither
        gi_wp2_with (refine ⟨trivial, ?_⟩; first | (gi_at_call 74; refine (CallsIn.inRound lp (callsIn_wide.2 (sure_calls x.1 day (w.heap.size + 1) W c3))).mono ?_; rintro e w1 ⟨rfl, hb1⟩; have HB1 := Aside0.mk hb1; have HS1 := Aside0.mk (HS.below HSW.out hb1); obtain ⟨d1, d2, d3, d4, d5, d6, d7⟩ := HS1.out.facts; simp only [enc122] at d4; rw [hsb]) | (gi_at_call 75; refine (CallsIn.inRound lp (callsIn_wide.2 (maybe_calls x.1 day (w.heap.size + 1) _ d3))).mono ?_; rintro e w2 ⟨rfl, hb2⟩; have HB2 := Aside0.mk hb2; have HS2 := Aside0.mk (HS.below HS1.out hb2); rw [hmb]))
        have HOK : Okay w5.heap.size b g W _ := ((Okay.below HB1.out (by omega) (by omega)).trans (Okay.below HB2.out (by have := HB1.out.size; omega) (by have := HB1.out.size; omega)))
        have hfin := HS2.out
        exact ⟨HOK.1, HOK.2, by rw [List.map_append, List.foldl_append, ← HH.out]; simp only [List.map_cons, List.map_nil, List.foldl_cons, List.foldl_nil, heldStep, hsb, hmb, if_true, if_false, Bool.false_eq_true]; exact hfin.1, Nat.le_trans hs HOK.2.2⟩
      · -- perhaps
        gi_wp2_with (refine ⟨trivial, ?_⟩; first | (gi_at_call 74; refine (CallsIn.inRound lp (callsIn_wide.2 (sure_calls x.1 day (w.heap.size + 1) W c3))).mono ?_; rintro e w1 ⟨rfl, hb1⟩; have HB1 := Aside0.mk hb1; have HS1 := Aside0.mk (HS.below HSW.out hb1); obtain ⟨d1, d2, d3, d4, d5, d6, d7⟩ := HS1.out.facts; simp only [enc122] at d4; rw [hsb]) | (gi_at_call 75; refine (CallsIn.inRound lp (callsIn_wide.2 (maybe_calls x.1 day (w.heap.size + 1) _ d3))).mono ?_; rintro e w2 ⟨rfl, hb2⟩; have HB2 := Aside0.mk hb2; have HS2 := Aside0.mk (HS.below HS1.out hb2); obtain ⟨g1, g2, g3, g4, g5, g6, g7⟩ := HS2.out.facts; simp only [enc122] at g4; obtain ⟨u7, hu7⟩ := g7 x.1.f0.f0.toNat HLEN.out; rw [hmb]))
        have HOK : Okay w5.heap.size b g W _ := (((Okay.below HB1.out (by omega) (by omega)).trans (Okay.below HB2.out (by have := HB1.out.size; omega) (by have := HB1.out.size; omega))).trans (Okay.set (o := w.heap.size + 3) w2 (1 + x.1.f0.f0.toNat) (.bool true) (by omega) (by omega)))
        have hfin := (HS2.out.set (1 + x.1.f0.f0.toNat) (.bool true) (heldCells_set1 _ x.1.f0.f0.toNat))
        exact ⟨HOK.1, HOK.2, by rw [List.map_append, List.foldl_append, ← HH.out]; simp only [List.map_cons, List.map_nil, List.foldl_cons, List.foldl_nil, heldStep, hsb, hmb, if_true, if_false, Bool.false_eq_true]; exact hfin.1, Nat.le_trans hs HOK.2.2⟩
    · cases hmb : maybeB day x.1
      · -- surely
        gi_wp2_with (refine ⟨trivial, ?_⟩; first | (gi_at_call 74; refine (CallsIn.inRound lp (callsIn_wide.2 (sure_calls x.1 day (w.heap.size + 1) W c3))).mono ?_; rintro e w1 ⟨rfl, hb1⟩; have HB1 := Aside0.mk hb1; have HS1 := Aside0.mk (HS.below HSW.out hb1); obtain ⟨d1, d2, d3, d4, d5, d6, d7⟩ := HS1.out.facts; simp only [enc122] at d4; have HS1' := Aside0.mk (HS1.out.set 0 (.int .i64 x.1.f0.f0) (heldCells_set0 h x.1.f0.f0)); obtain ⟨e1, e2, e3, e4, e5, e6, e7⟩ := HS1'.out.facts; simp only [enc122] at e4; rw [hsb]) | (gi_at_call 75; refine (CallsIn.inRound lp (callsIn_wide.2 (maybe_calls x.1 day (w.heap.size + 1) _ e3))).mono ?_; rintro e w2 ⟨rfl, hb2⟩; have HB2 := Aside0.mk hb2; have HS2 := Aside0.mk (HS.below HS1'.out hb2); rw [hmb]))
        have HOK : Okay w5.heap.size b g W _ := (((Okay.below HB1.out (by omega) (by omega)).trans (Okay.set (o := w.heap.size + 3) w1 0 (.int .i64 x.1.f0.f0) (by omega) (by omega))).trans (Okay.below HB2.out (by have := HB1.out.size; simp; omega) (by have := HB1.out.size; simp; omega)))
        have hfin := HS2.out
        exact ⟨HOK.1, HOK.2, by rw [List.map_append, List.foldl_append, ← HH.out]; simp only [List.map_cons, List.map_nil, List.foldl_cons, List.foldl_nil, heldStep, hsb, hmb, if_true, if_false, Bool.false_eq_true]; exact hfin.1, Nat.le_trans hs HOK.2.2⟩
      · -- both
        gi_wp2_with (refine ⟨trivial, ?_⟩; first | (gi_at_call 74; refine (CallsIn.inRound lp (callsIn_wide.2 (sure_calls x.1 day (w.heap.size + 1) W c3))).mono ?_; rintro e w1 ⟨rfl, hb1⟩; have HB1 := Aside0.mk hb1; have HS1 := Aside0.mk (HS.below HSW.out hb1); obtain ⟨d1, d2, d3, d4, d5, d6, d7⟩ := HS1.out.facts; simp only [enc122] at d4; have HS1' := Aside0.mk (HS1.out.set 0 (.int .i64 x.1.f0.f0) (heldCells_set0 h x.1.f0.f0)); obtain ⟨e1, e2, e3, e4, e5, e6, e7⟩ := HS1'.out.facts; simp only [enc122] at e4; rw [hsb]) | (gi_at_call 75; refine (CallsIn.inRound lp (callsIn_wide.2 (maybe_calls x.1 day (w.heap.size + 1) _ e3))).mono ?_; rintro e w2 ⟨rfl, hb2⟩; have HB2 := Aside0.mk hb2; have HS2 := Aside0.mk (HS.below HS1'.out hb2); obtain ⟨g1, g2, g3, g4, g5, g6, g7⟩ := HS2.out.facts; simp only [enc122] at g4; obtain ⟨u7, hu7⟩ := g7 x.1.f0.f0.toNat HLEN.out; rw [hmb]))
        have HOK : Okay w5.heap.size b g W _ := ((((Okay.below HB1.out (by omega) (by omega)).trans (Okay.set (o := w.heap.size + 3) w1 0 (.int .i64 x.1.f0.f0) (by omega) (by omega))).trans (Okay.below HB2.out (by have := HB1.out.size; simp; omega) (by have := HB1.out.size; simp; omega))).trans (Okay.set (o := w.heap.size + 3) w2 (1 + x.1.f0.f0.toNat) (.bool true) (by omega) (by omega)))
        have hfin := (HS2.out.set (1 + x.1.f0.f0.toNat) (.bool true) (heldCells_set1 _ x.1.f0.f0.toNat))
        exact ⟨HOK.1, HOK.2, by rw [List.map_append, List.foldl_append, ← HH.out]; simp only [List.map_cons, List.map_nil, List.foldl_cons, List.foldl_nil, heldStep, hsb, hmb, if_true, if_false, Bool.false_eq_true]; exact hfin.1, Nat.le_trans hs HOK.2.2⟩
  case done =>
    rintro D ys W hD rfl ⟨hI, hs⟩ hK
    rw [← HLL.out] at hI
    obtain ⟨hd, hz, ho, hf4, hf5, hbl⟩ := hI
    have HK := Aside0.mk hK
    have HBL := Aside0.mk hbl
    have hO : W.heap[w.heap.size + 3]? = some (.cells (heldCells (heldOf day l)) 114 (0, 0)) := ho
    clear hd hf4 hf5 hK hbl ho
    obtain ⟨vs, hvs⟩ : ∃ vs, heldCells (heldOf day l) = vs := ⟨_, rfl⟩
    have hv1 : vs.size = 21 := by rw [← hvs]; exact heldCells_size day l
    have hv2 := heldCells_one (heldOf day l)
    rw [hvs] at hO hv2
    have HVS := Aside0.mk hvs
    have HV1 := Aside0.mk hv1
    have HV2 := Aside0.mk hv2
    have HO := Aside0.mk hO
    have HZ := Aside0.mk hz
    clear hv1 hv2 hO hz hvs
    go_wp2_with (first | ((with_reducible refine gate_op (x := .load 114 (.tmp 7)) rfl ?_); go_loud (refine load_whole _ rfl 114 (.tmp 7) rfl (w.heap.size + 3) 21 vs rfl Try.isAgg114 Try.sizeOf114 HO.out HV1.out ?_)) | ((with_reducible refine gate_op (x := .store 114 (.tmp 6) (.tmp 33)) rfl ?_); go_loud (refine store_whole _ rfl 114 (.tmp 6) (.tmp 33) rfl (w.heap.size + 2) 21 _ vs rfl rfl Try.sizeOf114 HZ.out rfl HV1.out HV2.out ?_); intro w6 hb6 hg6 hz6))
    have hDne : D ≠ w.heap.size + 2 := by omega
    have hK6 : w6.heap[D]? = some (.deferred (some [])) := blk_grown HK.out hg6 (by intro e; cases e; exact hDne rfl)
    have hb7 : (w6.putObj D (.deferred none)).heap[w.heap.size + 2]? = some (.cells vs 114 (0, 0)) := (World.putObj_heap_other (by omega)).trans hb6
    have hB6 : Below w.heap.size w w6 := pw_below_grown HBL.out _ HBL.out.size hg6 (fun k e => by cases e; simp)
    have hB7 : Below w.heap.size w (w6.putObj D (.deferred none)) := hB6.trans (belowK_b (w := w) (Nat.le_refl _) w6 D _ _ (by omega) hK6 rfl rfl)
    refine ⟨by simp [Act.put], .inl ⟨_, _, rfl, run_takeDeferred hK6, ?_⟩⟩
    refine ⟨.agg vs, ?_, by rw [HVS.out], hB7⟩
    have hL := run_loadVar_whole (P := Try.prog) (w6.putObj D (.deferred none)) 114 (w.heap.size + 2) 21 vs Try.isAgg114 Try.sizeOf114 hb7 HV1.out
    have hA : (asAddr (.pointer (some ⟨w.heap.size + 2, 0, none⟩))).run Try.prog (w6.putObj D (.deferred none)) = .ok ⟨w.heap.size + 2, 0, none⟩ (w6.putObj D (.deferred none)) := by simp [asAddr, go_sem]
    simp [results, Try.f58, Act.put, hA, hL, Result.andThen]
end Go.Proofs.Ythpheknchikodaa.P

/- The walks of before and clash over two terms, the program's and the reference's. Conditions: none. -/
namespace Go.Proofs.Ythpheknchikodaa.P
open Go.RowKit Go.Proofs.YthpheknchikodaaW.PrintWords Go.Proofs.YthpheknchikodaaW.PrintLast
set_option linter.unusedVariables false
set_option linter.unusedSimpArgs false

theorem rbefore_calls (a b : S54) (w : World) : Calls Try.prog 71 #[.agg #[.int .i64 a.f0, .int .i64 a.f1, .int .i64 a.f2.f0, .int .i64 a.f2.f1, .int .i64 a.f3.f0, .int .i64 a.f3.f1], .agg #[.int .i64 b.f0, .int .i64 b.f1, .int .i64 b.f2.f0, .int .i64 b.f2.f1, .int .i64 b.f3.f0, .int .i64 b.f3.f1]] w fun e w' => e = .returned (.bool (befB (toT a) (toT b))) ∧ Below w.heap.size w w' := by
  have hu1 := Try.underlying54
  have hu2 := Try.underlying52
  go_enter Try.func71, Try.ntmps71
  go_wp2
  go_ret
  exact ⟨rfl, below_alloc (below_alloc (Below.refl _ _) _) _⟩
theorem rclash_calls (a b : S54) (w : World) : Calls Try.prog 63 #[.agg #[.int .i64 a.f0, .int .i64 a.f1, .int .i64 a.f2.f0, .int .i64 a.f2.f1, .int .i64 a.f3.f0, .int .i64 a.f3.f1], .agg #[.int .i64 b.f0, .int .i64 b.f1, .int .i64 b.f2.f0, .int .i64 b.f2.f1, .int .i64 b.f3.f0, .int .i64 b.f3.f1]] w fun e w' => e = .returned (.bool (clashB (toT a) (toT b))) ∧ Below w.heap.size w w' := by
  have hu1 := Try.underlying54
  have hu2 := Try.underlying52
  have HB0 := fun O O' => Aside0.mk (below_alloc (below_alloc (Below.refl w.heap.size w) O) O')
  have hx : ∀ j : Nat, ((w.alloc (.cells #[.int .i64 a.f0, .int .i64 a.f1, .int .i64 a.f2.f0, .int .i64 a.f2.f1, .int .i64 a.f3.f0, .int .i64 a.f3.f1] 54)).alloc (.cells #[.int .i64 b.f0, .int .i64 b.f1, .int .i64 b.f2.f0, .int .i64 b.f2.f1, .int .i64 b.f3.f0, .int .i64 b.f3.f1] 54)).cell? ⟨w.heap.size, j, none⟩ = (#[.int .i64 a.f0, .int .i64 a.f1, .int .i64 a.f2.f0, .int .i64 a.f2.f1, .int .i64 a.f3.f0, .int .i64 a.f3.f1] : Array Value)[j]? := fun j => blk_cell ((((Below.refl _ _).alloc (Nat.le_refl _) _).block _ (by simp)).trans (blk_new w _)) j
  have hy : ∀ j : Nat, ((w.alloc (.cells #[.int .i64 a.f0, .int .i64 a.f1, .int .i64 a.f2.f0, .int .i64 a.f2.f1, .int .i64 a.f3.f0, .int .i64 a.f3.f1] 54)).alloc (.cells #[.int .i64 b.f0, .int .i64 b.f1, .int .i64 b.f2.f0, .int .i64 b.f2.f1, .int .i64 b.f3.f0, .int .i64 b.f3.f1] 54)).cell? ⟨w.heap.size + 1, j, none⟩ = (#[.int .i64 b.f0, .int .i64 b.f1, .int .i64 b.f2.f0, .int .i64 b.f2.f1, .int .i64 b.f3.f0, .int .i64 b.f3.f1] : Array Value)[j]? := fun j => blk_cell (by have h := blk_new (w.alloc (.cells #[.int .i64 a.f0, .int .i64 a.f1, .int .i64 a.f2.f0, .int .i64 a.f2.f1, .int .i64 a.f3.f0, .int .i64 a.f3.f1] 54)) (.cells #[.int .i64 b.f0, .int .i64 b.f1, .int .i64 b.f2.f0, .int .i64 b.f2.f1, .int .i64 b.f3.f0, .int .i64 b.f3.f1] 54); rwa [World.size_alloc] at h) j
  have HX := Aside0.mk hx
  have HY := Aside0.mk hy
  clear hx hy
  by_cases h : a.f1 = b.f1
  · have h1 : (a.f1 == b.f1) = true := by simpa using h
    have h0 : decide ((toT a).f1 = (toT b).f1) = true := decide_eq_true h
    clear h
    cases h2 : befB (toT a) (toT b)
    · have HE := Aside0.mk (show clashB (toT a) (toT b) = !befB (toT b) (toT a) by unfold clashB; rw [h0, h2]; rfl)
      clear h0
      go_enter Try.func63, Try.ntmps63
      go_wp2_with fail
      refine (rbefore_calls a b _).mono ?_
      rintro e w1 ⟨rfl, hb⟩
      rw [h2]
      have HB1 := Aside0.mk (below_then (HB0 _ _).out (HB0 _ _).out.size hb)
      have c0 := fun j => (hb.cell (p := ⟨w.heap.size, j, none⟩) (by simp; omega)).trans (HX.out j)
      have c1 := fun j => (hb.cell (p := ⟨w.heap.size + 1, j, none⟩) (by simp)).trans (HY.out j)
      clear hb
      go_wp2_with fail
      refine (rbefore_calls b a _).mono ?_
      rintro e w2 ⟨rfl, hb⟩
      have HB2 := Aside0.mk (below_then HB1.out HB1.out.size hb)
      clear hb c0 c1
      go_wp2
      go_ret
      exact ⟨by rw [HE.out]; rfl, HB2.out⟩
    · have HE := Aside0.mk (show clashB (toT a) (toT b) = false by unfold clashB; rw [h0, h2]; rfl)
      clear h0
      go_enter Try.func63, Try.ntmps63
      go_wp2_with fail
      refine (rbefore_calls a b _).mono ?_
      rintro e w1 ⟨rfl, hb⟩
      rw [h2]
      have HB1 := Aside0.mk (below_then (HB0 _ _).out (HB0 _ _).out.size hb)
      clear hb
      go_wp2
      go_ret
      exact ⟨by rw [HE.out]; rfl, HB1.out⟩
  · have h1 : (a.f1 == b.f1) = false := by simpa using h
    have HE := Aside0.mk (show clashB (toT a) (toT b) = false by unfold clashB; rw [show decide ((toT a).f1 = (toT b).f1) = false from decide_eq_false h]; rfl)
    clear h
    go_enter Try.func63, Try.ntmps63
    go_wp2
    go_ret
    exact ⟨by rw [HE.out]; rfl, (HB0 _ _).out⟩
theorem pbefore_calls (a b : S59) (w : World) : Calls Try.prog 107 #[.agg #[.int .i64 a.f0, .int .i64 a.f1, .int .i64 a.f2.f0, .int .i64 a.f2.f1, .int .i64 a.f3.f0, .int .i64 a.f3.f1], .agg #[.int .i64 b.f0, .int .i64 b.f1, .int .i64 b.f2.f0, .int .i64 b.f2.f1, .int .i64 b.f3.f0, .int .i64 b.f3.f1]] w fun e w' => e = .returned (.bool (befB a b)) ∧ Below w.heap.size w w' := by
  have hu1 := Try.underlying59
  have hu2 := Try.underlying49
  go_enter Try.func107, Try.ntmps107
  go_wp2
  go_ret
  exact ⟨rfl, below_alloc (below_alloc (Below.refl _ _) _) _⟩
theorem pclash_calls (a b : S59) (w : World) : Calls Try.prog 89 #[.agg #[.int .i64 a.f0, .int .i64 a.f1, .int .i64 a.f2.f0, .int .i64 a.f2.f1, .int .i64 a.f3.f0, .int .i64 a.f3.f1], .agg #[.int .i64 b.f0, .int .i64 b.f1, .int .i64 b.f2.f0, .int .i64 b.f2.f1, .int .i64 b.f3.f0, .int .i64 b.f3.f1]] w fun e w' => e = .returned (.bool (clashB a b)) ∧ Below w.heap.size w w' := by
  have hu1 := Try.underlying59
  have hu2 := Try.underlying49
  have HB0 := fun O O' => Aside0.mk (below_alloc (below_alloc (Below.refl w.heap.size w) O) O')
  have hx : ∀ j : Nat, ((w.alloc (.cells #[.int .i64 a.f0, .int .i64 a.f1, .int .i64 a.f2.f0, .int .i64 a.f2.f1, .int .i64 a.f3.f0, .int .i64 a.f3.f1] 59)).alloc (.cells #[.int .i64 b.f0, .int .i64 b.f1, .int .i64 b.f2.f0, .int .i64 b.f2.f1, .int .i64 b.f3.f0, .int .i64 b.f3.f1] 59)).cell? ⟨w.heap.size, j, none⟩ = (#[.int .i64 a.f0, .int .i64 a.f1, .int .i64 a.f2.f0, .int .i64 a.f2.f1, .int .i64 a.f3.f0, .int .i64 a.f3.f1] : Array Value)[j]? := fun j => blk_cell ((((Below.refl _ _).alloc (Nat.le_refl _) _).block _ (by simp)).trans (blk_new w _)) j
  have hy : ∀ j : Nat, ((w.alloc (.cells #[.int .i64 a.f0, .int .i64 a.f1, .int .i64 a.f2.f0, .int .i64 a.f2.f1, .int .i64 a.f3.f0, .int .i64 a.f3.f1] 59)).alloc (.cells #[.int .i64 b.f0, .int .i64 b.f1, .int .i64 b.f2.f0, .int .i64 b.f2.f1, .int .i64 b.f3.f0, .int .i64 b.f3.f1] 59)).cell? ⟨w.heap.size + 1, j, none⟩ = (#[.int .i64 b.f0, .int .i64 b.f1, .int .i64 b.f2.f0, .int .i64 b.f2.f1, .int .i64 b.f3.f0, .int .i64 b.f3.f1] : Array Value)[j]? := fun j => blk_cell (by have h := blk_new (w.alloc (.cells #[.int .i64 a.f0, .int .i64 a.f1, .int .i64 a.f2.f0, .int .i64 a.f2.f1, .int .i64 a.f3.f0, .int .i64 a.f3.f1] 59)) (.cells #[.int .i64 b.f0, .int .i64 b.f1, .int .i64 b.f2.f0, .int .i64 b.f2.f1, .int .i64 b.f3.f0, .int .i64 b.f3.f1] 59); rwa [World.size_alloc] at h) j
  have HX := Aside0.mk hx
  have HY := Aside0.mk hy
  clear hx hy
  by_cases h : a.f1 = b.f1
  · have h1 : (a.f1 == b.f1) = true := by simpa using h
    have h0 : decide (a.f1 = b.f1) = true := decide_eq_true h
    clear h
    cases h2 : befB a b
    · have HE := Aside0.mk (show clashB a b = !befB b a by unfold clashB; rw [h0, h2]; rfl)
      clear h0
      go_enter Try.func89, Try.ntmps89
      go_wp2_with fail
      refine (pbefore_calls a b _).mono ?_
      rintro e w1 ⟨rfl, hb⟩
      rw [h2]
      have HB1 := Aside0.mk (below_then (HB0 _ _).out (HB0 _ _).out.size hb)
      have c0 := fun j => (hb.cell (p := ⟨w.heap.size, j, none⟩) (by simp; omega)).trans (HX.out j)
      have c1 := fun j => (hb.cell (p := ⟨w.heap.size + 1, j, none⟩) (by simp)).trans (HY.out j)
      clear hb
      go_wp2_with fail
      refine (pbefore_calls b a _).mono ?_
      rintro e w2 ⟨rfl, hb⟩
      have HB2 := Aside0.mk (below_then HB1.out HB1.out.size hb)
      clear hb c0 c1
      go_wp2
      go_ret
      exact ⟨by rw [HE.out]; rfl, HB2.out⟩
    · have HE := Aside0.mk (show clashB a b = false by unfold clashB; rw [h0, h2]; rfl)
      clear h0
      go_enter Try.func89, Try.ntmps89
      go_wp2_with fail
      refine (pbefore_calls a b _).mono ?_
      rintro e w1 ⟨rfl, hb⟩
      rw [h2]
      have HB1 := Aside0.mk (below_then (HB0 _ _).out (HB0 _ _).out.size hb)
      clear hb
      go_wp2
      go_ret
      exact ⟨by rw [HE.out]; rfl, HB1.out⟩
  · have h1 : (a.f1 == b.f1) = false := by simpa using h
    have HE := Aside0.mk (show clashB a b = false by unfold clashB; rw [show decide (a.f1 = b.f1) = false from decide_eq_false h]; rfl)
    clear h
    go_enter Try.func89, Try.ntmps89
    go_wp2
    go_ret
    exact ⟨by rw [HE.out]; rfl, (HB0 _ _).out⟩
end Go.Proofs.Ythpheknchikodaa.P

/- The walks of the program's clash, sound and asked over a roll. Conditions: the lists are readable, the terms at most a million. -/
namespace Go.Proofs.Ythpheknchikodaa.P
open Go.RowKit Go.Proofs.YthpheknchikodaaW.PrintWords Go.Proofs.YthpheknchikodaaW.PrintLast
set_option linter.unusedVariables false
set_option linter.unusedSimpArgs false

theorem six_cells {w : World} {g : Nat} {t : TypeId} {a b c d e f : Value} (h : w.heap[g]? = some (.cells #[a, b, c, d, e, f] t (0, 0))) :
    w.cell? ⟨g, 0, none⟩ = some a ∧ w.cell? ⟨g, 1, none⟩ = some b ∧ w.cell? ⟨g, 2, none⟩ = some c ∧ w.cell? ⟨g, 3, none⟩ = some d ∧ w.cell? ⟨g, 4, none⟩ = some e ∧ w.cell? ⟨g, 5, none⟩ = some f :=
  ⟨blk_cell h 0, blk_cell h 1, blk_cell h 2, blk_cell h 3, blk_cell h 4, blk_cell h 5⟩
theorem info59_ : (Try.prog.info? 59).map (fun i => (i.zero, i.size, i.bytes)) = some (some (.agg #[(.int .i64 0), (.int .i64 0), (.int .i64 0), (.int .i64 0), (.int .i64 0), (.int .i64 0)]), 6, 48) := by kernel_rfl
def tripOf : Option (Int × Int) → Int × Int × Bool
  | some x => (x.1, x.2, true)
  | none => (0, 0, false)
/-- What the inner loop answers. -/
def tripIn (i : Int) (R : Int × Int × Bool) : Option Int → Int × Int × Bool
  | some k => (i, k, true)
  | none => R
theorem trip_step (i : Int) (t : S59) (l : List S59) : tripOf (firstClash i (t :: l)) = tripIn i (tripOf (firstClash (i + 1) l)) (findClash t (i + 1) l) := by
  rw [firstClash]
  cases findClash t (i + 1) l <;> rfl
/-- A list of terms from a place on. -/
theorem C_from59 (A : Option Addr) (c : Nat) (xs : List S59) (a : Int) (w : World) (h0 : 0 ≤ a) (hm : a ≤ xs.length) (hc : xs.length ≤ c) (h : Kd.C k59 w A xs.length xs) :
    ∃ (A' : Option Addr) (c' : Nat), (∀ W : World, (Instr.slice 32 (.slice A xs.length c) (some (.int .i64 a)) none none).run Try.prog W = .ok (.slice A' (xs.drop a.toNat).length c') W) ∧ Kd.C k59 w A' (xs.drop a.toNat).length (xs.drop a.toNat) := by
  obtain ⟨i0, hi, _, hz1, _⟩ := info_parts info59_
  have h1 := cut_from (P := Try.prog) 32 59 .i64 Try.underlying32 hi 6 hz1 A xs.length c a h0 hm
  rw [← List.length_drop] at h1
  exact ⟨_, _, h1, Kd.C_drop (m := a.toNat) (c := c) h (by omega) hc⟩
set_option maxHeartbeats 4000000 in
set_option maxRecDepth 100000 in
theorem clash_calls (p o : Int) (A2 : Option Addr) (c2 : Nat) (ts : List S59) (A3 : Option Addr) (c3 : Nat) (ns : List S109) (w : World) (hr2 : Kd.C k59 w A2 ts.length ts) (hc2 : ts.length ≤ c2) (hts : ts.length ≤ 1000000) :
    Calls Try.prog 62 #[.agg #[.int .i64 p, .int .i64 o, .slice A2 ts.length c2, .slice A3 ns.length c3]] w fun e w' => e = .returned (.tuple #[.int .i64 (tripOf (firstClash 0 ts)).1, .int .i64 (tripOf (firstClash 0 ts)).2.1, .bool (tripOf (firstClash 0 ts)).2.2]) ∧ Below w.heap.size w w' := by
  have HR2 := Aside0.mk hr2
  have HC2 := Aside0.mk hc2
  have HTS := Aside0.mk hts
  clear hr2 hc2 hts
  have hu35 := Try.underlying35
  have hu59 := Try.underlying59
  have HB0 := Aside0.mk (below_alloc (Below.refl w.heap.size w) (.cells #[.int .i64 p, .int .i64 o, .slice A2 ts.length c2, .slice A3 ns.length c3] 35))
  have BK0 := Aside0.mk (blk_new w (.cells #[.int .i64 p, .int .i64 o, .slice A2 ts.length c2, .slice A3 ns.length c3] 35))
  obtain ⟨R, hR⟩ : ∃ R, tripOf (firstClash 0 ts) = R := ⟨_, rfl⟩
  rw [hR]
  have HR := Aside0.mk (show tripOf (firstClash 0 (ts.drop (0 : Int).toNat)) = R from hR)
  clear hR
  go_enter Try.func62, Try.ntmps62
  obtain ⟨x0, x1, x2, x3⟩ := roll_cells BK0.out
  go_wp2
  go_step3
  go_wp2
  go_step3
  go_wp2
  clear x0 x1 x2 x3
  go_loopg [2, 3, 4, 12] ts.length (fun kq v2 v3 v4 v12 w' => ∃ i : Int, v2 = .int .i64 0 ∧ v3 = .int .i64 0 ∧ v4 = .bool false ∧ v12 = .int .i64 i ∧ Aside0 (0 ≤ i ∧ kq + i.toNat = ts.length) ∧ Aside0 (tripOf (firstClash i (ts.drop i.toNat)) = R) ∧ Aside0 (w'.heap[w.heap.size]? = some (.cells #[.int .i64 p, .int .i64 o, .slice A2 ts.length c2, .slice A3 ns.length c3] 35 (0, 0))) ∧ Aside0 (Below w.heap.size w w'))
  case atStart => exact ⟨0, rfl, rfl, rfl, rfl, ⟨by simp⟩, HR, BK0, HB0⟩
  case round =>
    clear HR BK0 HB0
    obtain ⟨i, rfl, rfl, rfl, rfl, HI, HE, BK, HB⟩ := hrel
    rename World => W1
    by_cases hlt : i < (ts.length : Int)
    case neg =>
      have t0 : decide (i < (ts.length : Int)) = false := decide_eq_false hlt
      have hF : R = (0, 0, false) := by rw [← HE.out, List.drop_eq_nil_of_le (by have := HI.out; omega)]; rfl
      subst hF
      clear hlt HE
      go_wp2
      rw [Exit.noGoto_ret]
      go_ret3
      exact ⟨rfl, HB.out⟩
    case pos =>
      have t0 : decide (i < (ts.length : Int)) = true := decide_eq_true hlt
      have i0 : 0 ≤ i := HI.out.1
      have hw : wrap64 (i + 1) = i + 1 := by unfold wrap64; have := HTS.out; omega
      have HLT := Aside0.mk hlt
      obtain ⟨g1, rfl⟩ : ∃ g1, gk = g1 + 1 := ⟨gk - 1, by have := HI.out; omega⟩
      have HC := Aside0.mk (Kd.C_below HR2.out HB.out)
      obtain ⟨ad, hA, y0, y1, y2, y3, y4, y5⟩ := at_T59 HC.out i i0 hlt
      have hn1 : 0 ≤ i + 1 := by omega
      obtain ⟨A', c', hs1, hs2⟩ := C_from59 A2 c2 ts (i + 1) W1 hn1 (by omega) HC2.out HC.out
      obtain ⟨L, hL⟩ : ∃ L, ts.drop (i + 1).toNat = L := ⟨_, rfl⟩
      have HLN := Aside0.mk (show L.length ≤ 1000000 by rw [← hL, List.length_drop]; have := HTS.out; omega)
      rw [hL] at hs1 hs2
      have HS2 := Aside0.mk hs2
      obtain ⟨t, ht⟩ : ∃ t, rd_T59 ts i = t := ⟨_, rfl⟩
      have HE1 := Aside0.mk (show tripIn i (tripOf (firstClash (i + 1) L)) (findClash t (i + 1 + 0) (L.drop (0 : Int).toNat)) = R by
        have h' : i.toNat < ts.length := by omega
        rw [← HE.out, List.drop_eq_getElem_cons h', trip_step, ← hL, ← ht, show (i + 1).toNat = i.toNat + 1 by omega]
        simp [rd_T59, h'])
      have HLL := Aside0.mk hL
      rw [ht] at y0 y1 y2 y3 y4 y5
      have HB1 := Aside0.mk (below_alloc HB.out (.cells #[.int .i64 t.f0, .int .i64 t.f1, .int .i64 t.f2.f0, .int .i64 t.f2.f1, .int .i64 t.f3.f0, .int .i64 t.f3.f1] 59))
      have BK1 := Aside0.mk ((((Below.refl W1.heap.size W1).alloc (Nat.le_refl _) (.cells #[.int .i64 t.f0, .int .i64 t.f1, .int .i64 t.f2.f0, .int .i64 t.f2.f1, .int .i64 t.f3.f0, .int .i64 t.f3.f1] 59)).block _ (blk_lt BK.out)).trans BK.out)
      have BT := Aside0.mk (blk_new W1 (.cells #[.int .i64 t.f0, .int .i64 t.f1, .int .i64 t.f2.f0, .int .i64 t.f2.f1, .int .i64 t.f3.f0, .int .i64 t.f3.f1] 59))
      obtain ⟨x0, x1, x2, x3⟩ := roll_cells BK1.out
      clear hs2 hL ht HE
      cases hA
      replace i0 := eq_true i0
      replace hlt := eq_true hlt
      go_wp2
      have HW := Aside0.mk hw
      clear x0 x1 x2 x3 y0 y1 y2 y3 y4 y5 hw
      go_loopg [2, 3, 4, 23] L.length (fun kq v2 v3 v4 v23 w' => ∃ j : Int, v2 = .int .i64 0 ∧ v3 = .int .i64 0 ∧ v4 = .bool false ∧ v23 = .int .i64 j ∧ Aside0 (0 ≤ j ∧ kq + j.toNat = L.length) ∧ Aside0 (tripIn i (tripOf (firstClash (i + 1) L)) (findClash t (i + 1 + j) (L.drop j.toNat)) = R) ∧ Aside0 (w'.heap[w.heap.size]? = some (.cells #[.int .i64 p, .int .i64 o, .slice (some ad) ts.length c2, .slice A3 ns.length c3] 35 (0, 0))) ∧ Aside0 (w'.heap[W1.heap.size]? = some (.cells #[.int .i64 t.f0, .int .i64 t.f1, .int .i64 t.f2.f0, .int .i64 t.f2.f1, .int .i64 t.f3.f0, .int .i64 t.f3.f1] 59 (0, 0))) ∧ Aside0 (Below W1.heap.size W1 w') ∧ Aside0 (Below w.heap.size w w'))
      case atStart => exact ⟨0, rfl, rfl, rfl, rfl, ⟨by simp⟩, HE1, BK1, BT, ⟨below_alloc (Below.refl _ _) _⟩, HB1⟩
      case round =>
        clear HE1 BK1 BT HB1
        obtain ⟨j, rfl, rfl, rfl, rfl, HJ, HE, BK', BT, HBW, HB'⟩ := hrel
        by_cases hjt : j < (L.length : Int)
        case neg =>
          have t1 : decide (j < (L.length : Int)) = false := decide_eq_false hjt
          have HF := Aside0.mk (show tripOf (firstClash (i + 1) (ts.drop (i + 1).toNat)) = R by rw [← HE.out, HLL.out, List.drop_eq_nil_of_le (by have := HJ.out; omega)]; rfl)
          clear hjt
          go_wp2
          go_roundg g1
          case measure => omega
          case rel => exact ⟨i + 1, rfl, rfl, rfl, by first | rfl | rw [HW.out], ⟨by have := HI.out; have := HLT.out; omega⟩, HF, BK', HB'⟩
        case pos =>
          have t1 : decide (j < (L.length : Int)) = true := decide_eq_true hjt
          have j0 : 0 ≤ j := HJ.out.1
          have hwj : wrap64 (j + 1) = j + 1 := by unfold wrap64; have := HLN.out; omega
          have hwk : wrap64 (i + 1 + j) = i + 1 + j := by unfold wrap64; have := HLN.out; have := HTS.out; have := HLT.out; omega
          have HJT := Aside0.mk hjt
          obtain ⟨ad', hA', q0, q1, q2, q3, q4, q5⟩ := at_T59 (Kd.C_below HS2.out HBW.out) j j0 hjt
          obtain ⟨u, hu⟩ : ∃ u, rd_T59 L j = u := ⟨_, rfl⟩
          have HE1 := Aside0.mk (show (if clashB t u = true then (i, i + 1 + j, true) else tripIn i (tripOf (firstClash (i + 1) L)) (findClash t (i + 1 + (j + 1)) (L.drop (j + 1).toNat))) = R by
            have h' : j.toNat < L.length := by omega
            rw [← HE.out, List.drop_eq_getElem_cons h', findClash, ← hu, show (j + 1).toNat = j.toNat + 1 by omega, Int.add_assoc (i + 1) j 1]
            simp only [rd_T59, List.getD_eq_getElem?_getD, List.getElem?_eq_getElem h', Option.getD_some]
            by_cases c : clashB t L[j.toNat] = true
            · rw [if_pos c, if_pos c]; rfl
            · rw [if_neg c, if_neg c])
          rw [hu] at q0 q1 q2 q3 q4 q5
          have hb1 := fun O => (Below.refl wr.heap.size wr).alloc (Nat.le_refl _) O
          obtain ⟨z0, z1, z2, z3, z4, z5⟩ := six_cells BT.out
          have HBA := fun O => Aside0.mk (hb1 O)
          have zz0 := fun O => pw_cell_below (hb1 O) z0
          have zz1 := fun O => pw_cell_below (hb1 O) z1
          have zz2 := fun O => pw_cell_below (hb1 O) z2
          have zz3 := fun O => pw_cell_below (hb1 O) z3
          have zz4 := fun O => pw_cell_below (hb1 O) z4
          have zz5 := fun O => pw_cell_below (hb1 O) z5
          clear z0 z1 z2 z3 z4 z5
          clear hu HE hb1
          cases hA'
          replace j0 := eq_true j0
          replace hjt := eq_true hjt
          cases hcl : clashB t u
          · rw [hcl] at HE1
            go_wp2_with (go_at_call 89; (refine (pclash_calls t u _).mono ?_); rintro e w3 ⟨rfl, hb⟩; rw [hcl]; have HB3 := Aside0.mk (below_then ((HBA _).out) (HBA _).out.size hb); clear hb)
            go_roundg (gk - 1)
            case measure => have := HJ.out; have := HJT.out; omega
            case rel => exact ⟨j + 1, rfl, rfl, rfl, by first | rfl | rw [hwj], ⟨by have := HJ.out; have := HJT.out; omega⟩, HE1, ⟨(HB3.out.block _ (blk_lt BK'.out)).trans BK'.out⟩, ⟨(HB3.out.block _ (blk_lt BT.out)).trans BT.out⟩, ⟨below_then HBW.out HBW.out.size HB3.out⟩, ⟨below_then HB'.out HB'.out.size HB3.out⟩⟩
          · rw [hcl, if_pos rfl] at HE1
            have hE := HE1.out
            subst hE
            clear HE1
            go_wp2_with (go_at_call 89; (refine (pclash_calls t u _).mono ?_); rintro e w3 ⟨rfl, hb⟩; rw [hcl]; have HB3 := Aside0.mk (below_then ((HBA _).out) (HBA _).out.size hb); clear hb)
            rw [Exit.noGoto_ret]
            go_ret3
            exact ⟨by first | rfl | (rw [HW.out, hwk]; rfl) | (rw [hwk]; rfl) | (simp only [HW.out, hwk]; rfl), below_then HB'.out HB'.out.size HB3.out⟩
theorem fault_len {p o : Int} {ts : List S59} {ns : List S109} (h : rollFault p o ts ns = 0) : ts.length ≤ 40 := by
  unfold rollFault at h
  split at h
  · rename_i c
    simp only [Bool.and_eq_true, decide_eq_true_eq] at c
    exact c.2.2.1
  · cases h
def soundOf (p o : Int) (ts : List S59) (ns : List S109) : Int := if rollFault p o ts ns = 0 then (if (firstClash 0 ts).isSome then 9 else 0) else rollFault p o ts ns
theorem trip_found (ts : List S59) : (tripOf (firstClash 0 ts)).2.2 = (firstClash 0 ts).isSome := by cases firstClash 0 ts <;> rfl
def office_Roll_sound.f (k : Nat) (p o : Int) (ts : List S59) (ns : List S109) : Option Int := some (soundOf p o ts ns)
set_option maxHeartbeats 1000000 in
set_option maxRecDepth 100000 in
theorem office_Roll_sound.calls (k : Nat) (p o : Int) (A2 : Option Addr) (c2 : Nat) (ts : List S59) (A3 : Option Addr) (c3 : Nat) (ns : List S109) (r : Int) (w : World) (hr2 : Kd.C k59 w A2 ts.length ts) (hc2 : ts.length ≤ c2) (hr3 : Kd.C k109 w A3 ns.length ns) (hc3 : ns.length ≤ c3) (h : office_Roll_sound.f k p o ts ns = some r) :
    Calls Try.prog 57 #[.agg #[.int .i64 p, .int .i64 o, .slice A2 ts.length c2, .slice A3 ns.length c3]] w fun e w' => e = .returned (.int .i64 r) ∧ Below w.heap.size w w' := by
  have HB0 := Aside0.mk (below_alloc (Below.refl w.heap.size w) (.cells #[.int .i64 p, .int .i64 o, .slice A2 ts.length c2, .slice A3 ns.length c3] 35))
  have BK0 := Aside0.mk (blk_new w (.cells #[.int .i64 p, .int .i64 o, .slice A2 ts.length c2, .slice A3 ns.length c3] 35))
  have HR2 := Aside0.mk hr2
  have HR3 := Aside0.mk hr3
  have HC2 := Aside0.mk hc2
  have hu35 := Try.underlying35
  cases h
  obtain ⟨R, hR⟩ : ∃ R, soundOf p o ts ns = R := ⟨_, rfl⟩
  rw [hR]
  unfold soundOf at hR
  obtain ⟨f, hf⟩ : ∃ f, rollFault p o ts ns = f := ⟨_, rfl⟩
  rw [hf] at hR
  have HF := Aside0.mk hf
  clear hr2 hr3 hc2 hc3 hf
  obtain ⟨x0, x1, x2, x3⟩ := roll_cells BK0.out
  go_enter Try.func57, Try.ntmps57
  go_wp2_with fail
  refine (check_calls p o A2 c2 ts A3 c3 ns _ (Kd.C_below HR2.out HB0.out) (Kd.C_below HR3.out HB0.out)).mono ?_
  rintro e w1 ⟨rfl, hb⟩
  have HB1 := Aside0.mk (below_then HB0.out HB0.out.size hb)
  have BK1 := Aside0.mk ((hb.block _ (blk_lt BK0.out)).trans BK0.out)
  clear hb x0 x1 x2 x3
  rw [HF.out]
  by_cases h0 : f = 0
  case neg =>
    rw [if_neg h0] at hR
    subst hR
    have e1 : (f != 0) = true := bne_iff_ne.mpr h0
    clear h0
    go_wp2
    go_ret
    exact ⟨rfl, HB1.out⟩
  subst h0
  rw [if_pos rfl, ← trip_found] at hR
  have HRR := Aside0.mk hR
  clear hR
  obtain ⟨x0, x1, x2, x3⟩ := roll_cells BK1.out
  go_wp2_with fail
  refine (clash_calls p o A2 c2 ts A3 c3 ns _ (Kd.C_below HR2.out HB1.out) HC2.out (by have := fault_len HF.out; omega)).mono ?_
  rintro e w2 ⟨rfl, hb⟩
  have HB2 := Aside0.mk (below_then HB1.out HB1.out.size hb)
  clear hb x0 x1 x2 x3
  obtain ⟨T, hT⟩ : ∃ T, tripOf (firstClash 0 ts) = T := ⟨_, rfl⟩
  have hr := HRR.out
  rw [hT] at hr ⊢
  obtain ⟨a, b, c⟩ := T
  cases c
  · have hr' : R = 0 := hr.symm
    subst hr'
    clear hr HRR hT
    go_wp2
    go_ret
    exact ⟨rfl, HB2.out⟩
  · have hr' : R = 9 := hr.symm
    subst hr'
    clear hr HRR hT
    go_wp2
    go_ret
    exact ⟨rfl, HB2.out⟩
def paskedOf (p o : Int) (ts : List S59) (ns : List S109) (n most day : Int) : Int :=
  if rollFault p o ts ns = 0 then (if (withinB n 0 (wrap64 (most - 1)) && withinB day 0 100000) = true then 0 else 2) else rollFault p o ts ns
def office_Roll_asked.f (p o : Int) (ts : List S59) (ns : List S109) (n most day : Int) : Option Int := some (paskedOf p o ts ns n most day)
set_option maxHeartbeats 1000000 in
set_option maxRecDepth 100000 in
theorem office_Roll_asked.calls (p o : Int) (A2 : Option Addr) (c2 : Nat) (ts : List S59) (A3 : Option Addr) (c3 : Nat) (ns : List S109) (n most day : Int) (r : Int) (w : World) (hr2 : Kd.C k59 w A2 ts.length ts) (hc2 : ts.length ≤ c2) (hr3 : Kd.C k109 w A3 ns.length ns) (hc3 : ns.length ≤ c3) (h : office_Roll_asked.f p o ts ns n most day = some r) :
    Calls Try.prog 56 #[.agg #[.int .i64 p, .int .i64 o, .slice A2 ts.length c2, .slice A3 ns.length c3], .int .i64 n, .int .i64 most, .int .i64 day] w fun e w' => e = .returned (.int .i64 r) ∧ Below w.heap.size w w' := by
  have HB0 := Aside0.mk (below_alloc (Below.refl w.heap.size w) (.cells #[.int .i64 p, .int .i64 o, .slice A2 ts.length c2, .slice A3 ns.length c3] 35))
  have BK0 := Aside0.mk (blk_new w (.cells #[.int .i64 p, .int .i64 o, .slice A2 ts.length c2, .slice A3 ns.length c3] 35))
  have HR2 := Aside0.mk hr2
  have HR3 := Aside0.mk hr3
  have hu35 := Try.underlying35
  cases h
  obtain ⟨R, hR⟩ : ∃ R, paskedOf p o ts ns n most day = R := ⟨_, rfl⟩
  rw [hR]
  unfold paskedOf at hR
  obtain ⟨f, hf⟩ : ∃ f, rollFault p o ts ns = f := ⟨_, rfl⟩
  rw [hf] at hR
  have HF := Aside0.mk hf
  clear hr2 hr3 hc2 hc3 hf
  obtain ⟨x0, x1, x2, x3⟩ := roll_cells BK0.out
  go_enter Try.func56, Try.ntmps56
  go_wp2_with fail
  refine (check_calls p o A2 c2 ts A3 c3 ns _ (Kd.C_below HR2.out HB0.out) (Kd.C_below HR3.out HB0.out)).mono ?_
  rintro e w1 ⟨rfl, hb⟩
  have HB1 := Aside0.mk (below_then HB0.out HB0.out.size hb)
  clear hb x0 x1 x2 x3
  rw [HF.out]
  by_cases h0 : f = 0
  case neg =>
    rw [if_neg h0] at hR
    subst hR
    have e1 : (f != 0) = true := bne_iff_ne.mpr h0
    clear h0
    go_wp2
    go_ret
    exact ⟨rfl, HB1.out⟩
  subst h0
  rw [if_pos rfl] at hR
  cases c1 : withinB n 0 (wrap64 (most - 1))
  · rw [c1] at hR
    obtain rfl : R = 2 := hR.symm
    clear hR
    go_wp2_with (go_at_call 73; (with_reducible refine (within_calls _ _ _ _).mono ?_); rintro e w' ⟨rfl, rfl⟩; rw [c1])
    go_ret
    exact ⟨rfl, HB1.out⟩
  cases cc2 : withinB day 0 100000
  · rw [c1, cc2] at hR
    obtain rfl : R = 2 := hR.symm
    clear hR
    go_wp2_with (go_at_call 73; (with_reducible refine (within_calls _ _ _ _).mono ?_); rintro e w' ⟨rfl, rfl⟩; (first | rw [c1] | rw [cc2]))
    go_ret
    exact ⟨rfl, HB1.out⟩
  · rw [c1, cc2] at hR
    obtain rfl : R = 0 := hR.symm
    clear hR
    go_wp2_with (go_at_call 73; (with_reducible refine (within_calls _ _ _ _).mono ?_); rintro e w' ⟨rfl, rfl⟩; (first | rw [c1] | rw [cc2]))
    go_ret
    exact ⟨rfl, HB1.out⟩
end Go.Proofs.Ythpheknchikodaa.P
