/- Contracts of the functions that the law OfficeClashes reaches, part 11. Conditions: each theorem names its own. -/
import Derived.Laws.Tables
import Derived.Laws.Cells
import Derived.Laws.EntriesVeiled
import Derived.Test.YthpheknchikodaaXc1
import Derived.Test.YthpheknchikodaaXc9
import Derived.Test.YthpheknchikodaaXc10
import Derived.Test.YthpheknchikodaaXc3
/- A variable of many cells, in a block of its own, stored and loaded as a whole. Conditions: the value has as many cells as the variable. -/
namespace Go.Proofs.Ythpheknchikodaa.P
open Go.RowKit Go.Proofs.YthpheknchikodaaW.PrintWords Go.Proofs.YthpheknchikodaaW.PrintLast
set_option linter.unusedVariables false
set_option linter.unusedSimpArgs false

theorem run_store_whole {P : Program} (w : World) (t : TypeId) (g n : Nat) (cs vs : Array Value) (hsz : ∀ W, (Go.sizeOf t).run P W = .ok n W) (hb : w.heap[g]? = some (.cells cs t (0, 0))) (h1 : cs.size = n) (h2 : vs.size = n) (h3 : ∀ v ∈ vs.toList, v.oneCell' = true) :
    (Instr.storeAt t (.pointer (some ⟨g, 0, none⟩)) (.agg vs)).run P w = .ok () (w.setRow g vs) := by
  have h := run_storeCells_from (P := P) g t vs.toList 0 cs w hb (by simp [h1, h2]) h3
  simp only [List.take_zero, List.nil_append] at h
  simp [Instr.storeAt, storeVar, Instr.sureAddr, hsz, Result.andThen, Value.cells, h2]
  simpa using h
theorem run_load_whole {P : Program} (w : World) (t : TypeId) (g n : Nat) (vs : Array Value) (hag : ∀ W, (isAgg t).run P W = .ok true W) (hsz : ∀ W, (Go.sizeOf t).run P W = .ok n W) (hb : w.heap[g]? = some (.cells vs t (0, 0))) (h2 : vs.size = n) :
    (Instr.loadAt t (.pointer (some ⟨g, 0, none⟩))).run P w = .ok (.agg vs) w := by
  have h := run_loadCellsFrom (P := P) (w := w) ⟨g, 0, none⟩ (fun j => vs.getD j undef) n 0 #[] (fun j hj => by
    rw [Nat.zero_add, add_plain]
    simp [World.cell?, hb, Array.getD, show j < vs.size by omega])
  have e : (((List.range n).map fun j => vs.getD (0 + j) undef).toArray) = vs := by
    apply Array.ext
    · simp [h2]
    · intro i h3 h4
      simp [Array.getD, h4]
  rw [e] at h
  simp only [Array.empty_append] at h
  simp [Instr.loadAt, loadVar, Instr.sureAddr, hag, hsz, Result.andThen, loadCells]
  simp [h]
section
variable {P : Program} {ops : Array Oper} {rest : List Oper} {o : Oper} {a : Act} {Q : Exit → Act → World → Prop}
/-- Is it this operation? -/
theorem gate_op {w : World} {x : Op} (_h : o.op = x) (h : wpList P ops Q (o :: rest) a w) : wpList P ops Q (o :: rest) a w := h
/-- The store, at the operation: the world behind it has a name, and what is known of it. -/
theorem store_whole (w : World) (hg : o.guard = none) (t : TypeId) (x y : Operand) (hop : o.op = .store t x y) (g n : Nat) (cs vs : Array Value) (hx : a.eval x = .pointer (some ⟨g, 0, none⟩)) (hy : a.eval y = .agg vs)
    (hsz : ∀ W, (Go.sizeOf t).run P W = .ok n W) (hb : w.heap[g]? = some (.cells cs t (0, 0))) (h1 : cs.size = n) (h2 : vs.size = n) (h3 : ∀ v ∈ vs.toList, v.oneCell' = true)
    (hK : ∀ w', w'.heap[g]? = some (.cells vs t (0, 0)) → w.grownBy w' (some g) → w'.heap.size = w.heap.size → wpList P ops Q rest (a.put o.dst undef) w') : wpList P ops Q (o :: rest) a w := by
  refine wpList_plain hg fun K' hK' => ?_
  have hrun := run_store_whole (P := P) w t g n cs vs hsz hb h1 h2 h3
  unfold Oper.wp
  simp [execOp, hop, hx, hy, hrun, Result.andThen]
  refine hK' _ _ (hK _ ?_ ⟨rfl, rfl, rfl, by simp [World.setRow], fun i _ hi => ?_⟩ (by simp [World.setRow]))
  · simp [World.setRow, Array.getElem?_modify, hb]
  · have : g ≠ i := fun e => hi (by rw [e])
    simp [World.setRow, Array.getElem?_modify, this]
/-- The load, at the operation. -/
theorem load_whole (w : World) (hg : o.guard = none) (t : TypeId) (x : Operand) (hop : o.op = .load t x) (g n : Nat) (vs : Array Value) (hx : a.eval x = .pointer (some ⟨g, 0, none⟩))
    (hag : ∀ W, (isAgg t).run P W = .ok true W) (hsz : ∀ W, (Go.sizeOf t).run P W = .ok n W) (hb : w.heap[g]? = some (.cells vs t (0, 0))) (h2 : vs.size = n)
    (hK : wpList P ops Q rest (a.put o.dst (.agg vs)) w) : wpList P ops Q (o :: rest) a w := by
  refine wpList_plain hg fun K' hK' => ?_
  have hrun := run_load_whole (P := P) w t g n vs hag hsz hb h2
  unfold Oper.wp
  simp [execOp, hop, hx, hrun, Result.andThen]
  exact hK' _ _ hK
end
end Go.Proofs.Ythpheknchikodaa.P

/- The walk of (Roll).holds: who holds an office on a day. Conditions: the persons of the terms are less than 20. -/
namespace Go.Proofs.Ythpheknchikodaa.P
open Go.RowKit Go.Shelf Go.Proofs.YthpheknchikodaaW.PrintWords Go.Proofs.YthpheknchikodaaW.PrintLast
attribute [local go_sem] Oper.semAt_some
set_option linter.unusedVariables false
set_option linter.unusedSimpArgs false

/-- What a term adds. -/
def heldStep (day : Int) (h : Int × List Bool) (x : S122) : Int × List Bool :=
  (if sureB day x then x.f0.f0 else h.1, if maybeB day x then h.2.set x.f0.f0.toNat true else h.2)
def heldOf (day : Int) (l : List S122) : Int × List Bool := l.foldl (heldStep day) (-1, List.replicate 20 false)
def heldCells (h : Int × List Bool) : Array Value := (Value.int .i64 h.1 :: h.2.map Value.bool).toArray
theorem held_new (w : World) (a b c d : Obj) : ((((w.alloc a).alloc b).alloc c).alloc d).heap[w.heap.size + 3]? = some d := by
  have h := World.alloc_heap_new (((w.alloc a).alloc b).alloc c) d
  simp only [World.size_alloc] at h
  exact h
theorem blk_alloc {w : World} {g : Nat} {o : Obj} (h : w.heap[g]? = some o) (O : Obj) : (w.alloc O).heap[g]? = some o := (((Below.refl w.heap.size w).alloc (Nat.le_refl _) O).block g (blk_lt h)).trans h
theorem held_facts {w w4 : World} {a b c d : Obj} (hg : ((((w.alloc a).alloc b).alloc c).alloc d).grownBy w4 (some (w.heap.size + 3))) (hz : w4.heap.size = ((((w.alloc a).alloc b).alloc c).alloc d).heap.size) :
    w4.heap.size = w.heap.size + 4 ∧ Below w.heap.size w w4 ∧ w4.heap[w.heap.size]? = some a ∧ w4.heap[w.heap.size + 1]? = some b ∧ w4.heap[w.heap.size + 2]? = some c := by
  have h1 : ((((w.alloc a).alloc b).alloc c).alloc d).heap[w.heap.size]? = some a := blk_alloc (blk_alloc (blk_alloc (World.alloc_heap_new w a) b) c) d
  have h2 : ((((w.alloc a).alloc b).alloc c).alloc d).heap[w.heap.size + 1]? = some b := by
    have h := World.alloc_heap_new (w.alloc a) b
    rw [World.size_alloc] at h
    exact blk_alloc (blk_alloc h c) d
  have h3 : ((((w.alloc a).alloc b).alloc c).alloc d).heap[w.heap.size + 2]? = some c := by
    have h := World.alloc_heap_new ((w.alloc a).alloc b) c
    simp only [World.size_alloc] at h
    exact blk_alloc h d
  refine ⟨by rw [hz]; simp, ?_, ?_, ?_, (hg.block _ (by simp; try omega) (by simp)).trans h3⟩
  · exact pw_below_grown ((((Below.refl w.heap.size w).alloc (Nat.le_refl _) a).alloc (by simp) b).alloc (by simp; omega) c |>.alloc (by simp; try omega) d) (some (w.heap.size + 3)) (by simp; try omega) hg (fun k e => by cases e; simp)
  · exact (hg.block _ (by simp; try omega) (by simp)).trans h1
  · exact (hg.block _ (by simp; try omega) (by simp)).trans h2
theorem blk2 {w : World} {g : Nat} {cs : Array Value} {t : TypeId} (O O' : Obj) (h : w.heap[g]? = some (.cells cs t (0, 0))) (j : Nat) : ((w.alloc O).alloc O').cell? ⟨g, j, none⟩ = cs[j]? :=
  blk_cell (blk_alloc (blk_alloc h O) O') j
def heldInv (w : World) (day : Int) (h : Int × List Bool) (W : World) : Prop :=
  W.heap[w.heap.size + 1]? = some (.cells #[.int .i64 day] 3 (0, 0)) ∧ W.heap[w.heap.size + 2]? = some (.cells #[.int .i64 0, .bool false, .bool false, .bool false, .bool false, .bool false, .bool false, .bool false, .bool false, .bool false, .bool false, .bool false, .bool false, .bool false, .bool false, .bool false, .bool false, .bool false, .bool false, .bool false, .bool false] 114 (0, 0)) ∧
  W.heap[w.heap.size + 3]? = some (.cells (heldCells h) 114 (0, 0)) ∧ W.heap[w.heap.size + 4]? = some (.cells #[.func (.func 74) #[] #[.pointer (some ⟨w.heap.size + 1, 0, none⟩)]] 144 (0, 0)) ∧
  W.heap[w.heap.size + 5]? = some (.cells #[.func (.func 75) #[] #[.pointer (some ⟨w.heap.size + 1, 0, none⟩)]] 144 (0, 0)) ∧ Below w.heap.size w W
theorem heldInv.own (w : World) (day : Int) (B : Nat) (hB : w.heap.size ≤ B) {β : Type} (f : β → Int × List Bool) : OwnFrom B (fun s W => heldInv w day (f s) W) := by
  intro s W W' row ⟨h1, h2, h3, h4, h5, h6⟩ hg hr
  have hne : ∀ {j : Nat} {cs : Array Value} {t : TypeId}, W.heap[j]? = some (.cells cs t (0, 0)) → some j ≠ row := by
    intro j cs t hj e
    obtain ⟨_, o, ho, hc⟩ := hr j e.symm
    rw [hj] at ho
    cases ho
    cases hc
  exact ⟨blk_grown h1 hg (hne h1), blk_grown h2 hg (hne h2), blk_grown h3 hg (hne h3), blk_grown h4 hg (hne h4), blk_grown h5 hg (hne h5), pw_below_grown h6 row h6.size hg (fun k e => Nat.le_trans hB (hr k e).1)⟩
theorem heldCells_set0 (h : Int × List Bool) (v : Int) : (heldCells h).setIfInBounds 0 (.int .i64 v) = heldCells (v, h.2) := by simp [heldCells]
theorem heldCells_set1 (h : Int × List Bool) (i : Nat) : (heldCells h).setIfInBounds (1 + i) (.bool true) = heldCells (h.1, h.2.set i true) := by rw [Nat.add_comm 1 i]; simp [heldCells, List.map_set]
/-- What stands while a body runs. -/
def HS (w : World) (day : Int) (h : Int × List Bool) (Bx : Nat) (x : S122) (W : World) : Prop := heldInv w day h W ∧ W.heap[Bx]? = some (.cells (enc122 x).toArray 122 (0, 0))
theorem HS.below {w : World} {day : Int} {h : Int × List Bool} {Bx : Nat} {x : S122} {W W' : World} (s : HS w day h Bx x W) (hb : Below W.heap.size W W') : HS w day h Bx x W' := by
  obtain ⟨⟨h1, h2, h3, h4, h5, h6⟩, h7⟩ := s
  exact ⟨⟨(hb.block _ (blk_lt h1)).trans h1, (hb.block _ (blk_lt h2)).trans h2, (hb.block _ (blk_lt h3)).trans h3, (hb.block _ (blk_lt h4)).trans h4, (hb.block _ (blk_lt h5)).trans h5, below_then h6 h6.size hb⟩, (hb.block _ (blk_lt h7)).trans h7⟩
theorem HS.set {w : World} {day : Int} {h h' : Int × List Bool} {Bx : Nat} {x : S122} {W : World} (s : HS w day h Bx x W) (i : Nat) (u : Value) (he : (heldCells h).setIfInBounds i u = heldCells h') : HS w day h' Bx x (W.setCell ⟨w.heap.size + 3, i, none⟩ u) := by
  obtain ⟨⟨h1, h2, h3, h4, h5, h6⟩, h7⟩ := s
  have hne := blk_ne h7 h3 (by decide)
  exact ⟨⟨blk_far h1 (by simp) u, blk_far h2 (by simp) u, by rw [← he]; exact blk_set h3 i u, blk_far h4 (by simp) u, blk_far h5 (by simp) u, h6.setCell (p := ⟨w.heap.size + 3, i, none⟩) (by simp) u⟩, blk_far h7 hne u⟩
theorem HS.facts {w : World} {day : Int} {h : Int × List Bool} {Bx : Nat} {x : S122} {W : World} (s : HS w day h Bx x W) :
    W.cell? ⟨w.heap.size + 4, 0, none⟩ = some (.func (.func 74) #[] #[.pointer (some ⟨w.heap.size + 1, 0, none⟩)]) ∧ W.cell? ⟨w.heap.size + 5, 0, none⟩ = some (.func (.func 75) #[] #[.pointer (some ⟨w.heap.size + 1, 0, none⟩)]) ∧ W.cell? ⟨w.heap.size + 1, 0, none⟩ = some (.int .i64 day) ∧
    (∀ j, W.cell? ⟨Bx, j, none⟩ = (enc122 x).toArray[j]?) ∧ W.cell? ⟨w.heap.size + 3, 0, none⟩ = some (.int .i64 h.1) ∧ (∀ j, W.frozen? ⟨w.heap.size + 3, j, none⟩ = false) ∧ (∀ i, i < h.2.length → ∃ u, W.cell? ⟨w.heap.size + 3, 1 + i, none⟩ = some (.bool u)) := by
  obtain ⟨⟨h1, h2, h3, h4, h5, h6⟩, h7⟩ := s
  refine ⟨blk_cell h4 0, blk_cell h5 0, blk_cell h1 0, fun j => blk_cell h7 j, (blk_cell h3 0).trans (by simp [heldCells]), fun j => blk_frozen h3 j, fun i hi => ⟨h.2[i], (blk_cell h3 _).trans ?_⟩⟩
  rw [Nat.add_comm 1 i]
  simp [heldCells, hi]
/-- What a body may do. -/
def Okay (B b g : Nat) (W W' : World) : Prop := KeepsFrom B W W' ∧ Keeps2 b g W W' ∧ W.heap.size ≤ W'.heap.size
theorem Okay.trans {B b g : Nat} {X Y Z : World} (h : Okay B b g X Y) (k : Okay B b g Y Z) : Okay B b g X Z := ⟨h.1.trans k.1, h.2.1.trans k.2.1, Nat.le_trans h.2.2 k.2.2⟩
theorem Okay.below {B b g : Nat} {W W' : World} (h : Below W.heap.size W W') (h1 : b < W.heap.size) (h2 : g < W.heap.size) : Okay B b g W W' := ⟨KeepsFrom.of_grownBy (grown_of_below h none) (fun _ e => by cases e), Keeps2.below h h1 h2, h.size⟩
theorem Okay.set {B b g o : Nat} (W : World) (i : Nat) (u : Value) (h1 : b ≠ o) (h2 : g ≠ o) : Okay B b g W (W.setCell ⟨o, i, none⟩ u) := ⟨(KeepsOthers.setCell W ⟨o, i, none⟩ u).from B, ⟨Below.heap_setCell W ⟨o, i, none⟩ u b h1, Below.heap_setCell W ⟨o, i, none⟩ u g h2⟩, by simp [World.setCell]⟩
theorem held_len (day : Int) (l : List S122) : ∀ h : Int × List Bool, (l.foldl (heldStep day) h).2.length = h.2.length := by
  induction l with
  | nil => intro h; rfl
  | cons x l ih =>
    intro h
    rw [List.foldl_cons, ih]
    unfold heldStep
    dsimp only
    split <;> simp
theorem heldCells_size (day : Int) (l : List S122) : (heldCells (heldOf day l)).size = 21 := by
  have h := held_len day l (-1, List.replicate 20 false)
  simp only [List.length_replicate] at h
  unfold heldCells heldOf
  rw [List.size_toArray, List.length_cons, List.length_map, h]
theorem heldCells_one (h : Int × List Bool) : ∀ v ∈ (heldCells h).toList, v.oneCell' = true := by
  intro v hv
  simp [heldCells] at hv
  rcases hv with rfl | ⟨⟨_, rfl⟩ | ⟨_, rfl⟩⟩ <;> simp [Value.oneCell']
theorem run_loadVar_whole {P : Program} (w : World) (t : TypeId) (g n : Nat) (vs : Array Value) (hag : ∀ W, (isAgg t).run P W = .ok true W) (hsz : ∀ W, (Go.sizeOf t).run P W = .ok n W) (hb : w.heap[g]? = some (.cells vs t (0, 0))) (h2 : vs.size = n) :
    (loadVar t ⟨g, 0, none⟩).run P w = .ok (.agg vs) w := by
  have h := run_load_whole (P := P) w t g n vs hag hsz hb h2
  simpa [Instr.loadAt, Instr.sureAddr, Result.andThen] using h
theorem R_inblock {w : World} {base b : Nat} {ok : Nat → Prop} {v : Value} {l : List S122} (h : Kd.R k122 122 w base ok v l) (hb : base ≤ b) (hb2 : b < w.heap.size) :
    ∃ A c g, v = .slice A l.length c ∧ base ≤ g ∧ g < w.heap.size ∧ InBlock w g A l := by
  obtain ⟨A, c, rfl, hl, hC⟩ := Kd.R_reads h
  obtain ⟨inner, ho⟩ := Kd.R_own h
  rcases ho.2 with ⟨e, _⟩ | ⟨g, cap, cur, e, hg, hh, r⟩
  · exact ⟨A, c, b, rfl, hb, hb2, hC, fun ad e' => by subst e'; cases e⟩
  · exact ⟨A, c, g, rfl, hg, blk_lt hh, hC, fun ad e' => by subst e'; cases e; rfl⟩
set_option maxHeartbeats 4000000 in
set_option maxRecDepth 100000 in
theorem holds_calls (k : Nat) (p o : Int) (A2 : Option Addr) (c2 : Nat) (ts : List S59) (A3 : Option Addr) (c3 : Nat) (ns : List S109) (office day : Int) (l : List S122) (w : World)
    (hr2 : Kd.C k59 w A2 ts.length ts) (hc2 : ts.length ≤ c2) (hr3 : Kd.C k109 w A3 ns.length ns) (hc3 : ns.length ≤ c3) (ht : office_Roll_terms.f k p o ts ns office = some l) (hlen : l.length ≤ 1000000000) (hP : ∀ x ∈ l, 0 ≤ x.f0.f0 ∧ x.f0.f0 < 20) :
    Calls Try.prog 58 #[.agg #[.int .i64 p, .int .i64 o, .slice A2 ts.length c2, .slice A3 ns.length c3], .int .i64 office, .int .i64 day] w fun e w' => e = .returned (.agg (heldCells (heldOf day l))) ∧ Below w.heap.size w w' := by
  have HR2 := Aside0.mk hr2
  have HR3 := Aside0.mk hr3
  have HC2 := Aside0.mk hc2
  have HC3 := Aside0.mk hc3
  have HT := Aside0.mk ht
  have HPP := Aside0.mk hP
  have HL := Aside0.mk hlen
  clear hr2 hr3 hc2 hc3 ht hP hlen
  have hu35 := Try.underlying35
  have hu114 := Try.underlying114
  have hu122 := Try.underlying122
  refine (callsIn_wide (n := 9)).1 ?_
  refine callsIn_of_wp_marks Try.func58 rfl trivial ?_ rfl
  simp only [Try.ntmps58, List.size_toArray, List.length_cons, List.length_nil, Nat.reduceAdd, Nat.reduceSub, Array.replicate_succ, Array.replicate_zero, List.push_toArray, List.append_toArray, List.nil_append, List.cons_append]
  rw [wpIn_wide]
  go_wp2_with ((with_reducible refine gate_op (x := .store 114 (.tmp 7) (.tmp 11)) rfl ?_); go_loud (refine store_whole _ rfl 114 (.tmp 7) (.tmp 11) rfl (w.heap.size + 3) 21 #[.int .i64 0, .bool false, .bool false, .bool false, .bool false, .bool false, .bool false, .bool false, .bool false, .bool false, .bool false, .bool false, .bool false, .bool false, .bool false, .bool false, .bool false, .bool false, .bool false, .bool false, .bool false] #[.int .i64 (-1), .bool false, .bool false, .bool false, .bool false, .bool false, .bool false, .bool false, .bool false, .bool false, .bool false, .bool false, .bool false, .bool false, .bool false, .bool false, .bool false, .bool false, .bool false, .bool false, .bool false] rfl rfl Try.sizeOf114 (held_new w _ _ _ _) rfl rfl (by simp [Value.oneCell']) ?_); intro w4 hb4 hg4 hz4; obtain ⟨hs4, hB4, hR4, hD4, hZ4⟩ := held_facts hg4 hz4; have HB4 := Aside0.mk hb4; have HBB := Aside0.mk hB4; have hr0 := fun O O' => blk2 O O' hR4 0; have hr1 := fun O O' => blk2 O O' hR4 1; have hr2 := fun O O' => blk2 O O' hR4 2; have hr3 := fun O O' => blk2 O O' hR4 3; have HR4 := Aside0.mk hR4; have HD4 := Aside0.mk hD4; have HZ4 := Aside0.mk hZ4; clear hb4 hg4 hz4 hB4 hR4 hD4 hZ4)
  refine (office_Roll_terms.calls k p o A2 c2 ts A3 c3 ns office l _ (Kd.C_below HR2.out (below_alloc (below_alloc HBB.out _) _)) HC2.out (Kd.C_below HR3.out (below_alloc (below_alloc HBB.out _) _)) HC3.out HT.out).mono ?_
  rintro e w5 ⟨v0, b, rfl, hb5, hlb, hR5, hB5⟩
  obtain ⟨A, c, g, rfl, hg1, hg2, hC⟩ := R_inblock hR5 hlb (blk_lt hb5)
  have HI0 : heldInv w day (-1, List.replicate 20 false) w5 := by
    have h4 := World.alloc_heap_new w4 (.cells #[.func (.func 74) #[] #[.pointer (some ⟨w.heap.size + 1, 0, none⟩)]] 144)
    have h5 := World.alloc_heap_new (w4.alloc (.cells #[.func (.func 74) #[] #[.pointer (some ⟨w.heap.size + 1, 0, none⟩)]] 144)) (.cells #[.func (.func 75) #[] #[.pointer (some ⟨w.heap.size + 1, 0, none⟩)]] 144)
    rw [World.size_alloc, hs4] at h5
    rw [hs4] at h4
    refine ⟨(hB5.block _ (by simp; omega)).trans (blk_alloc (blk_alloc HD4.out _) _), (hB5.block _ (by simp; omega)).trans (blk_alloc (blk_alloc HZ4.out _) _), (hB5.block _ (by simp; omega)).trans (blk_alloc (blk_alloc HB4.out _) _), (hB5.block _ (by simp; omega)).trans (blk_alloc h4 _), (hB5.block _ (by simp; omega)).trans h5, below_then (below_alloc (below_alloc HBB.out _) _) (by simp; omega) hB5⟩
  have HI0 := Aside0.mk HI0
  have HR5 := Aside0.mk hR5
  have HB5 := Aside0.mk hB5
  have hs5 : w.heap.size + 6 ≤ w5.heap.size := by
    have h := hB5.size
    simp only [World.size_alloc, hs4] at h
    exact h
  have hlb' : w.heap.size + 6 ≤ b := by
    have h := hlb
    simp only [World.size_alloc, hs4] at h
    exact h
  have hlg' : w.heap.size + 6 ≤ g := by
    have h := hg1
    simp only [World.size_alloc, hs4] at h
    exact h
  have Hb5 := Aside0.mk hb5
  have HC := Aside0.mk hC
  have Hg2 := Aside0.mk hg2
  clear hr0 hr1 hr2 hr3 hR5 hB5 hb5 hC hg1 hg2 hlb
  obtain ⟨L, hL⟩ : ∃ L : List {x : S122 // 0 ≤ x.f0.f0 ∧ x.f0.f0 < 20}, l = L.map Subtype.val := ⟨l.attachWith _ HPP.out, by rw [List.attachWith_map_subtype_val]⟩
  have HLL := Aside0.mk hL
  clear hL
  go_wp2
  simp only [Nat.add_assoc, Nat.reduceAdd]
  rw [← wpIn_wide (n := 9)]
  refine wpIn_rangeFunc_ownH (F := Fence.wide) (n := 9) rfl (by omega) (gf := 100) (lb := #[.pointer (some ⟨b, 0, none⟩)]) rfl trivial (enters_of Try.func100 (by kernel_rfl) rfl)
    (iter_stops Subtype.val L Fence.wide 8 trivial rfl (by omega) b g c A l HLL.out HL.out w5 Hb5.out Hg2.out HC.out)
    (fun h1 h2 => ⟨h1.1.trans h2.1, Nat.le_trans h1.2 h2.2⟩) (fun W lw o o' hl _ _ _ => ⟨Keeps2.putObj (blk_lt Hb5.out) Hg2.out W lw o o' hl, by simp⟩) (Below.refl _ _) (fun _ => rfl)
    (fun pre W => heldInv w day ((pre.map Subtype.val).foldl (heldStep day) (-1, List.replicate 20 false)) W ∧ w5.heap.size ≤ W.heap.size)
    (fun _ _ _ => False)
    (OwnFrom.and (heldInv.own w day _ (by omega) _) (fun _ W W' row hs hg _ => Nat.le_trans hs hg.size))
    (fun _ _ _ _ _ hs _ _ => hs)
    ⟨HI0.out, Nat.le_refl _⟩
    (fun x a' W => ∃ Bx, a' = { tmps := #[.agg #[.int .i64 p, .int .i64 o, .slice A2 ts.length c2, .slice A3 ns.length c3], .int .i64 office, .int .i64 day, .pointer (some ⟨w.heap.size, 0, none⟩), undef, .pointer (some ⟨w.heap.size + 1, 0, none⟩), .pointer (some ⟨w.heap.size + 2, 0, none⟩), .pointer (some ⟨w.heap.size + 3, 0, none⟩), .pointer (some ⟨w.heap.size + 4, 0, none⟩), .pointer (some ⟨w.heap.size + 5, 0, none⟩), .pointer (some ⟨Bx, 0, none⟩), .agg #[.int .i64 (-1), .bool false, .bool false, .bool false, .bool false, .bool false, .bool false, .bool false, .bool false, .bool false, .bool false, .bool false, .bool false, .bool false, .bool false, .bool false, .bool false, .bool false, .bool false, .bool false, .bool false], .func (.func 74) #[] #[.pointer (some ⟨w.heap.size + 1, 0, none⟩)], .func (.func 75) #[] #[.pointer (some ⟨w.heap.size + 1, 0, none⟩)], .agg #[.int .i64 p, .int .i64 o, .slice A2 ts.length c2, .slice A3 ns.length c3], .int .i64 office, .func (.func 100) #[] #[.pointer (some ⟨b, 0, none⟩)], .agg (enc122 x.1).toArray, undef, undef, undef, undef, undef, undef, undef, undef, undef, undef, undef, undef, undef, undef, undef, undef], defers := [] } ∧ W.heap[Bx]? = some (.cells (enc122 x.1).toArray 122 (0, 0)) ∧ w5.heap.size ≤ Bx)
    (fun x a' => fun _ W W' row hs hg hr => ?ax) ?assign ?body ?done ?stop
  case ax =>
    obtain ⟨Bx, e1, e2, e3⟩ := hs
    refine ⟨Bx, e1, blk_grown e2 hg (fun e => ?_), e3⟩
    obtain ⟨_, o, ho, hc⟩ := hr Bx e.symm
    rw [e2] at ho
    cases ho
    cases hc
  case stop =>
    rintro D cc pre W _ _ h _
    exact h.elim
  case assign =>
    intro lp pre x W K hI hK
    have hI' := Aside0.mk hI.1
    have hs := hI.2
    have HK := Aside0.mk hK
    clear hI hK
    simp only [enc122]
    gi_wp2
    refine HK.out _ _ ((KeepsOthers.alloc W _).from _) ⟨Keeps2.below (below_alloc (Below.refl _ _) _) (by have := blk_lt Hb5.out; omega) (by have := Hg2.out; omega), by simp⟩ ⟨(heldInv.own w day w5.heap.size (by omega) (fun pre : List {x : S122 // 0 ≤ x.f0.f0 ∧ x.f0.f0 < 20} => (pre.map Subtype.val).foldl (heldStep day) (-1, List.replicate 20 false))).alloc _ hI'.out, by simp; omega⟩ ⟨W.heap.size, rfl, World.alloc_heap_new _ _, hs⟩
  case body =>
    rintro lp pre x a' W hlw hlr ⟨hI, hs⟩ ⟨Bx, rfl, hx, hBx⟩ hpl
    obtain ⟨hx0, hx1⟩ := x.2
    obtain ⟨h, hh⟩ : ∃ h, h = (pre.map Subtype.val).foldl (heldStep day) (-1, List.replicate 20 false) := ⟨_, rfl⟩
    rw [← hh] at hI
    have HH := Aside0.mk hh
    clear hh hlr
    have hS : HS w day h Bx x.1 W := ⟨hI, hx⟩
    clear hI hx
    obtain ⟨c1, c2, c3, c4, c5, c6, c7⟩ := hS.facts
    have HSW := Aside0.mk hS
    clear c2 c5 c6 c7 hS
    simp only [enc122] at c4
    simp only [enc122]
    have HLEN := Aside0.mk (show x.1.f0.f0.toNat < h.2.length by rw [HH.out, held_len, List.length_replicate]; omega)
    have hbW : b < W.heap.size := Nat.lt_of_lt_of_le (blk_lt Hb5.out) hs
    have hgW : g < W.heap.size := Nat.lt_of_lt_of_le Hg2.out hs
    replace hx0 := eq_true hx0
    replace hx1 := eq_true hx1
    cases hsb : sureB day x.1
    · cases hmb : maybeB day x.1
      · -- neither
        gi_wp2_with (refine ⟨trivial, ?_⟩; first | (gi_at_call 74; refine (CallsIn.inRound lp (callsIn_wide.2 (sure_calls x.1 day (w.heap.size + 1) W c3))).mono ?_; rintro e w1 ⟨rfl, hb1⟩; have HB1 := Aside0.mk hb1; have HS1 := Aside0.mk (HS.below HSW.out hb1); obtain ⟨d1, d2, d3, d4, d5, d6, d7⟩ := HS1.out.facts; simp only [enc122] at d4; rw [hsb]) | (gi_at_call 75; refine (CallsIn.inRound lp (callsIn_wide.2 (maybe_calls x.1 day (w.heap.size + 1) _ d3))).mono ?_; rintro e w2 ⟨rfl, hb2⟩; have HB2 := Aside0.mk hb2; have HS2 := Aside0.mk (HS.below HS1.out hb2); rw [hmb]))
        have HOK : Okay w5.heap.size b g W _ := ((Okay.below HB1.out (by omega) (by omega)).trans (Okay.below HB2.out (by have := HB1.out.size; omega) (by have := HB1.out.size; omega)))
        have hfin := HS2.out
        exact ⟨HOK.1, HOK.2, by rw [List.map_append, List.foldl_append, ← HH.out]; simp only [List.map_cons, List.map_nil, List.foldl_cons, List.foldl_nil, heldStep, hsb, hmb, if_true, if_false, Bool.false_eq_true]; exact hfin.1, Nat.le_trans hs HOK.2.2⟩
      · -- perhaps
        gi_wp2_with (refine ⟨trivial, ?_⟩; first | (gi_at_call 74; refine (CallsIn.inRound lp (callsIn_wide.2 (sure_calls x.1 day (w.heap.size + 1) W c3))).mono ?_; rintro e w1 ⟨rfl, hb1⟩; have HB1 := Aside0.mk hb1; have HS1 := Aside0.mk (HS.below HSW.out hb1); obtain ⟨d1, d2, d3, d4, d5, d6, d7⟩ := HS1.out.facts; simp only [enc122] at d4; rw [hsb]) | (gi_at_call 75; refine (CallsIn.inRound lp (callsIn_wide.2 (maybe_calls x.1 day (w.heap.size + 1) _ d3))).mono ?_; rintro e w2 ⟨rfl, hb2⟩; have HB2 := Aside0.mk hb2; have HS2 := Aside0.mk (HS.below HS1.out hb2); obtain ⟨g1, g2, g3, g4, g5, g6, g7⟩ := HS2.out.facts; simp only [enc122] at g4; obtain ⟨u7, hu7⟩ := g7 x.1.f0.f0.toNat HLEN.out; rw [hmb]))
        have HOK : Okay w5.heap.size b g W _ := (((Okay.below HB1.out (by omega) (by omega)).trans (Okay.below HB2.out (by have := HB1.out.size; omega) (by have := HB1.out.size; omega))).trans (Okay.set (o := w.heap.size + 3) w2 (1 + x.1.f0.f0.toNat) (.bool true) (by omega) (by omega)))
        have hfin := (HS2.out.set (1 + x.1.f0.f0.toNat) (.bool true) (heldCells_set1 _ x.1.f0.f0.toNat))
        exact ⟨HOK.1, HOK.2, by rw [List.map_append, List.foldl_append, ← HH.out]; simp only [List.map_cons, List.map_nil, List.foldl_cons, List.foldl_nil, heldStep, hsb, hmb, if_true, if_false, Bool.false_eq_true]; exact hfin.1, Nat.le_trans hs HOK.2.2⟩
    · cases hmb : maybeB day x.1
      · -- surely
        gi_wp2_with (refine ⟨trivial, ?_⟩; first | (gi_at_call 74; refine (CallsIn.inRound lp (callsIn_wide.2 (sure_calls x.1 day (w.heap.size + 1) W c3))).mono ?_; rintro e w1 ⟨rfl, hb1⟩; have HB1 := Aside0.mk hb1; have HS1 := Aside0.mk (HS.below HSW.out hb1); obtain ⟨d1, d2, d3, d4, d5, d6, d7⟩ := HS1.out.facts; simp only [enc122] at d4; have HS1' := Aside0.mk (HS1.out.set 0 (.int .i64 x.1.f0.f0) (heldCells_set0 h x.1.f0.f0)); obtain ⟨e1, e2, e3, e4, e5, e6, e7⟩ := HS1'.out.facts; simp only [enc122] at e4; rw [hsb]) | (gi_at_call 75; refine (CallsIn.inRound lp (callsIn_wide.2 (maybe_calls x.1 day (w.heap.size + 1) _ e3))).mono ?_; rintro e w2 ⟨rfl, hb2⟩; have HB2 := Aside0.mk hb2; have HS2 := Aside0.mk (HS.below HS1'.out hb2); rw [hmb]))
        have HOK : Okay w5.heap.size b g W _ := (((Okay.below HB1.out (by omega) (by omega)).trans (Okay.set (o := w.heap.size + 3) w1 0 (.int .i64 x.1.f0.f0) (by omega) (by omega))).trans (Okay.below HB2.out (by have := HB1.out.size; simp; omega) (by have := HB1.out.size; simp; omega)))
        have hfin := HS2.out
        exact ⟨HOK.1, HOK.2, by rw [List.map_append, List.foldl_append, ← HH.out]; simp only [List.map_cons, List.map_nil, List.foldl_cons, List.foldl_nil, heldStep, hsb, hmb, if_true, if_false, Bool.false_eq_true]; exact hfin.1, Nat.le_trans hs HOK.2.2⟩
      · -- both
        gi_wp2_with (refine ⟨trivial, ?_⟩; first | (gi_at_call 74; refine (CallsIn.inRound lp (callsIn_wide.2 (sure_calls x.1 day (w.heap.size + 1) W c3))).mono ?_; rintro e w1 ⟨rfl, hb1⟩; have HB1 := Aside0.mk hb1; have HS1 := Aside0.mk (HS.below HSW.out hb1); obtain ⟨d1, d2, d3, d4, d5, d6, d7⟩ := HS1.out.facts; simp only [enc122] at d4; have HS1' := Aside0.mk (HS1.out.set 0 (.int .i64 x.1.f0.f0) (heldCells_set0 h x.1.f0.f0)); obtain ⟨e1, e2, e3, e4, e5, e6, e7⟩ := HS1'.out.facts; simp only [enc122] at e4; rw [hsb]) | (gi_at_call 75; refine (CallsIn.inRound lp (callsIn_wide.2 (maybe_calls x.1 day (w.heap.size + 1) _ e3))).mono ?_; rintro e w2 ⟨rfl, hb2⟩; have HB2 := Aside0.mk hb2; have HS2 := Aside0.mk (HS.below HS1'.out hb2); obtain ⟨g1, g2, g3, g4, g5, g6, g7⟩ := HS2.out.facts; simp only [enc122] at g4; obtain ⟨u7, hu7⟩ := g7 x.1.f0.f0.toNat HLEN.out; rw [hmb]))
        have HOK : Okay w5.heap.size b g W _ := ((((Okay.below HB1.out (by omega) (by omega)).trans (Okay.set (o := w.heap.size + 3) w1 0 (.int .i64 x.1.f0.f0) (by omega) (by omega))).trans (Okay.below HB2.out (by have := HB1.out.size; simp; omega) (by have := HB1.out.size; simp; omega))).trans (Okay.set (o := w.heap.size + 3) w2 (1 + x.1.f0.f0.toNat) (.bool true) (by omega) (by omega)))
        have hfin := (HS2.out.set (1 + x.1.f0.f0.toNat) (.bool true) (heldCells_set1 _ x.1.f0.f0.toNat))
        exact ⟨HOK.1, HOK.2, by rw [List.map_append, List.foldl_append, ← HH.out]; simp only [List.map_cons, List.map_nil, List.foldl_cons, List.foldl_nil, heldStep, hsb, hmb, if_true, if_false, Bool.false_eq_true]; exact hfin.1, Nat.le_trans hs HOK.2.2⟩
  case done =>
    rintro D ys W hD rfl ⟨hI, hs⟩ hK
    rw [← HLL.out] at hI
    obtain ⟨hd, hz, ho, hf4, hf5, hbl⟩ := hI
    have HK := Aside0.mk hK
    have HBL := Aside0.mk hbl
    have hO : W.heap[w.heap.size + 3]? = some (.cells (heldCells (heldOf day l)) 114 (0, 0)) := ho
    clear hd hf4 hf5 hK hbl ho
    obtain ⟨vs, hvs⟩ : ∃ vs, heldCells (heldOf day l) = vs := ⟨_, rfl⟩
    have hv1 : vs.size = 21 := by rw [← hvs]; exact heldCells_size day l
    have hv2 := heldCells_one (heldOf day l)
    rw [hvs] at hO hv2
    have HVS := Aside0.mk hvs
    have HV1 := Aside0.mk hv1
    have HV2 := Aside0.mk hv2
    have HO := Aside0.mk hO
    have HZ := Aside0.mk hz
    clear hv1 hv2 hO hz hvs
    go_wp2_with (first | ((with_reducible refine gate_op (x := .load 114 (.tmp 7)) rfl ?_); go_loud (refine load_whole _ rfl 114 (.tmp 7) rfl (w.heap.size + 3) 21 vs rfl Try.isAgg114 Try.sizeOf114 HO.out HV1.out ?_)) | ((with_reducible refine gate_op (x := .store 114 (.tmp 6) (.tmp 33)) rfl ?_); go_loud (refine store_whole _ rfl 114 (.tmp 6) (.tmp 33) rfl (w.heap.size + 2) 21 _ vs rfl rfl Try.sizeOf114 HZ.out rfl HV1.out HV2.out ?_); intro w6 hb6 hg6 hz6))
    have hDne : D ≠ w.heap.size + 2 := by omega
    have hK6 : w6.heap[D]? = some (.deferred (some [])) := blk_grown HK.out hg6 (by intro e; cases e; exact hDne rfl)
    have hb7 : (w6.putObj D (.deferred none)).heap[w.heap.size + 2]? = some (.cells vs 114 (0, 0)) := (World.putObj_heap_other (by omega)).trans hb6
    have hB6 : Below w.heap.size w w6 := pw_below_grown HBL.out _ HBL.out.size hg6 (fun k e => by cases e; simp)
    have hB7 : Below w.heap.size w (w6.putObj D (.deferred none)) := hB6.trans (belowK_b (w := w) (Nat.le_refl _) w6 D _ _ (by omega) hK6 rfl rfl)
    refine ⟨by simp [Act.put], .inl ⟨_, _, rfl, run_takeDeferred hK6, ?_⟩⟩
    refine ⟨.agg vs, ?_, by rw [HVS.out], hB7⟩
    have hL := run_loadVar_whole (P := Try.prog) (w6.putObj D (.deferred none)) 114 (w.heap.size + 2) 21 vs Try.isAgg114 Try.sizeOf114 hb7 HV1.out
    have hA : (asAddr (.pointer (some ⟨w.heap.size + 2, 0, none⟩))).run Try.prog (w6.putObj D (.deferred none)) = .ok ⟨w.heap.size + 2, 0, none⟩ (w6.putObj D (.deferred none)) := by simp [asAddr, go_sem]
    simp [results, Try.f58, Act.put, hA, hL, Result.andThen]
end Go.Proofs.Ythpheknchikodaa.P

-- Written for this claim by a program of this session (over the kit's print). Lean checks it.
namespace Go.Proofs.Ythpheknchikodaa.P
open Go.RowKit Go.Proofs.YthpheknchikodaaW.PrintWords Go.Proofs.YthpheknchikodaaW.PrintLast
set_option linter.unusedVariables false
set_option linter.unusedSimpArgs false

/-! ### office_within: function 73 -/
def office_within.f (a0 : Int) (a1 : Int) (a2 : Int) : Option (Bool) := if a1 ≤ a0 then (some (decide (a0 ≤ a2))) else (some false)
set_option maxHeartbeats 8000000 in
set_option maxRecDepth 100000 in
theorem office_within.calls (a0 : Int) (a1 : Int) (a2 : Int) (r : Bool) (w : World) (h : office_within.f a0 a1 a2 = some r) :
    Calls Try.prog 73 #[.int .i64 a0, .int .i64 a1, .int .i64 a2] w fun e w' => e = .returned (.bool r) ∧ Drawn0 w w' := by
  have H : (if a1 ≤ a0 then (some (decide (a0 ≤ a2))) else (some false)) = some r := h
  clear h
  by_cases c4 : a1 ≤ a0
  · rw [if_pos c4] at H
    have c4b0 : decide (a1 ≤ a0) = true := decide_eq_true c4
    clear c4
    obtain rfl := Option.some.inj H
    go_enter Try.func73, Try.ntmps73
    go_wp2
    go_ret
    exact ⟨by first | rfl | (simp; done) | (simp [*]; done), by repeat (first | exact Drawn0.refl _ | apply Drawn0.step)⟩
  · rw [if_neg c4] at H
    have c4b0 : decide (a1 ≤ a0) = false := decide_eq_false c4
    clear c4
    obtain rfl := Option.some.inj H
    go_enter Try.func73, Try.ntmps73
    go_wp2
    go_ret
    exact ⟨by first | rfl | (simp; done) | (simp [*]; done), by repeat (first | exact Drawn0.refl _ | apply Drawn0.step)⟩

end Go.Proofs.Ythpheknchikodaa.P

-- Written for this claim by a program of this session (over the kit's print). Lean checks it.
namespace Go.Proofs.Ythpheknchikodaa.P
open Go.RowKit Go.Proofs.YthpheknchikodaaW.PrintWords Go.Proofs.YthpheknchikodaaW.PrintLast
set_option linter.unusedVariables false
set_option linter.unusedSimpArgs false

/-! ### office_Roll_asked: function 56 -/
def office_Roll_asked.f (a0_0 : Int) (a0_1 : Int) (l0_2 : List (S59)) (l0_3 : List (S109)) (a1 : Int) (a2 : Int) (a3 : Int) : Option (Int) := (office_Roll_check.f a0_0 a0_1 l0_2 l0_3).bind fun t102 => (if t102 = 0 then ((office_within.f a1 0 (wrap64 (a2 - 1))).bind fun t103 => (if t103 = true then ((office_within.f a3 0 100000).bind fun t104 => (if t104 = true then (some 0) else (some 2))) else (some 2))) else (some t102))
set_option maxHeartbeats 8000000 in
set_option maxRecDepth 100000 in
theorem office_Roll_asked.calls (a0_0 : Int) (a0_1 : Int) (A0_2 : Option Addr) (c0_2 : Nat) (l0_2 : List (S59)) (A0_3 : Option Addr) (c0_3 : Nat) (l0_3 : List (S109)) (a1 : Int) (a2 : Int) (a3 : Int) (r : Int) (w : World) (hr0_2 : Kd.C k59 w A0_2 l0_2.length l0_2) (hc0_2 : l0_2.length ≤ c0_2) (hr0_3 : Kd.C k109 w A0_3 l0_3.length l0_3) (hc0_3 : l0_3.length ≤ c0_3) (h : office_Roll_asked.f a0_0 a0_1 l0_2 l0_3 a1 a2 a3 = some r) :
    Calls Try.prog 56 #[.agg #[.int .i64 a0_0, .int .i64 a0_1, .slice A0_2 l0_2.length c0_2, .slice A0_3 l0_3.length c0_3], .int .i64 a1, .int .i64 a2, .int .i64 a3] w fun e w' => e = .returned (.int .i64 r) ∧ Below w.heap.size w w' := by
  have hu35 := Try.underlying35
  have HR0_2 := Aside0.mk hr0_2
  have HC0_2 := Aside0.mk hc0_2
  clear hr0_2 hc0_2
  have HR0_3 := Aside0.mk hr0_3
  have HC0_3 := Aside0.mk hc0_3
  clear hr0_3 hc0_3
  have HB := Aside0.mk (Below.refl w.heap.size w)
  have H : ((office_Roll_check.f a0_0 a0_1 l0_2 l0_3).bind fun t102 => (if t102 = 0 then ((office_within.f a1 0 (wrap64 (a2 - 1))).bind fun t103 => (if t103 = true then ((office_within.f a3 0 100000).bind fun t104 => (if t104 = true then (some 0) else (some 2))) else (some 2))) else (some t102))) = some r := h
  clear h
  replace H := Option.bind_eq_some_iff.mp H
  obtain ⟨t102, A50, H⟩ := H
  replace H : (if t102 = 0 then ((office_within.f a1 0 (wrap64 (a2 - 1))).bind fun t103 => (if t103 = true then ((office_within.f a3 0 100000).bind fun t104 => (if t104 = true then (some 0) else (some 2))) else (some 2))) else (some t102)) = some r := H
  have A5 := Aside0.mk A50
  clear A50
  by_cases c6 : t102 = 0
  · rw [if_pos c6] at H
    have c6b0 : (t102 == 0) = true := beq_iff_eq.mpr c6
    have c6b1 : (t102 != 0) = false := bne_eq_false_iff_eq.mpr c6
    clear c6
    replace H := Option.bind_eq_some_iff.mp H
    obtain ⟨t103, A70, H⟩ := H
    replace H : (if t103 = true then ((office_within.f a3 0 100000).bind fun t104 => (if t104 = true then (some 0) else (some 2))) else (some 2)) = some r := H
    have A7 := Aside0.mk A70
    clear A70
    by_cases c8 : t103 = true
    · subst c8
      have H1 : ((office_within.f a3 0 100000).bind fun t104 => (if t104 = true then (some 0) else (some 2))) = some r := by rw [if_pos rfl] at H; exact H
      clear H
      have H := H1
      clear H1
      replace H := Option.bind_eq_some_iff.mp H
      obtain ⟨t104, A90, H⟩ := H
      replace H : (if t104 = true then (some 0) else (some 2)) = some r := H
      have A9 := Aside0.mk A90
      clear A90
      by_cases c10 : t104 = true
      · subst c10
        have H1 : (some 0) = some r := by rw [if_pos rfl] at H; exact H
        clear H
        have H := H1
        clear H1
        obtain rfl := Option.some.inj H
        go_enter Try.func56, Try.ntmps56
        go_wp2_with (first | ((with_reducible refine gate_dst (N := 4) rfl ?_); refine box_event ?hg (N := 4) ?hd (cs := #[.int .i64 a0_0, .int .i64 a0_1, .slice A0_2 l0_2.length c0_2, .slice A0_3 l0_3.length c0_3]) (t := 35) ?hr ?_; (case hd => rfl); (case hg => rfl); (case hr => first | (go_simp; done) | (go_simp; rfl)); intro gb101 hg w11 hbox hb; have n0_ := Aside0.mk (below_step (by repeat (first | (with_reducible first | exact HB.out | apply below_alloc | apply pw_below_drewN | apply below_drew1) | exact HB.out)) hb); have n1_ := Aside0.mk (hbox); have n2_ := Aside0.mk ((by rw [hg]; exact (below_size (by repeat (first | (with_reducible first | exact HB.out | apply below_alloc | apply pw_below_drewN | apply below_drew1) | exact HB.out))) : w.heap.size ≤ gb101)); have n3_ := Aside0.mk ((by rw [hg]; exact (below_size (by repeat (first | (with_reducible first | exact HB.out | apply below_alloc | apply pw_below_drewN | apply below_drew1) | exact HB.out))) : w.heap.size ≤ gb101)); clear HB; have HB := n0_; have BK101 := n1_; have GW101 := n2_; have GE101 := n3_; clear n0_ n1_ n2_ n3_; clear hb hbox hg; have hcz12_0 : w11.cell? ⟨gb101, 0, none⟩ = some (.int .i64 a0_0) := (blk_cell BK101.out 0).trans rfl; have hcz12_1 : w11.cell? ⟨gb101, 1, none⟩ = some (.int .i64 a0_1) := (blk_cell BK101.out 1).trans rfl; have hcz12_2 : w11.cell? ⟨gb101, 2, none⟩ = some (.slice A0_2 l0_2.length c0_2) := (blk_cell BK101.out 2).trans rfl; have hcz12_3 : w11.cell? ⟨gb101, 3, none⟩ = some (.slice A0_3 l0_3.length c0_3) := (blk_cell BK101.out 3).trans rfl; have hfz12_0 := blk_frozen BK101.out 0; have hfz12_1 := blk_frozen BK101.out 1; have hfz12_2 := blk_frozen BK101.out 2; have hfz12_3 := blk_frozen BK101.out 3) | ((with_reducible refine gate_callee (f := 61) rfl ?_); refine goesL_ (some 11) rfl rfl Try.func61 (by kernel_rfl) rfl #[.agg #[.int .i64 a0_0, .int .i64 a0_1, .slice A0_2 l0_2.length c0_2, .slice A0_3 l0_3.length c0_3]] rfl (by (try simp only [List.map_toArray, List.map_cons, List.map_nil]); first | done | rfl | (simp only [List.length_drop, List.length_take]; rfl)) ?_; (with_reducible refine (office_Roll_check.calls a0_0 a0_1 _ _ l0_2 _ _ l0_3 t102 _ ?side1 ?side2 ?side3 ?side4 A5.out).mono ?_); (case side1 => repeat (first | exact (Kd.C_below HR0_2.out HB.out) | (with_reducible refine Kd.C_alloc ?_ _) | (with_reducible refine Kd.C_drewN ?_ _) | (with_reducible refine Kd.C_drew ?_))); (case side2 => exact HC0_2.out); (case side3 => repeat (first | exact (Kd.C_below HR0_3.out HB.out) | (with_reducible refine Kd.C_alloc ?_ _) | (with_reducible refine Kd.C_drewN ?_ _) | (with_reducible refine Kd.C_drew ?_))); (case side4 => exact HC0_3.out); rintro e w13 ⟨rfl, hb⟩; refine ⟨_, rfl, ?_⟩; have n0_ := Aside0.mk (blk_below (g := gb101) (o := .cells #[.int .i64 a0_0, .int .i64 a0_1, .slice A0_2 l0_2.length c0_2, .slice A0_3 l0_3.length c0_3] 35 (0, 0)) (by (with_reducible repeat (first | refine blk_drewN ?_ _ | refine blk_drew ?_ | refine blk_alloc ?_ _)); exact BK101.out) hb); have n1_ := Aside0.mk (below_step (by repeat (first | (with_reducible first | exact HB.out | apply below_alloc | apply pw_below_drewN | apply below_drew1 | refine below_set ?_ GE101.out) | exact HB.out)) hb); clear BK101; clear HB; have BK101 := n0_; have HB := n1_; clear n0_ n1_; (try clear hb); (try clear hb2); (try clear hk); (try clear hi)) | ((with_reducible refine gate_callee (f := 73) rfl ?_); refine goesL_ (some 18) rfl rfl Try.func73 (by kernel_rfl) rfl #[.int .i64 a1, .int .i64 0, .int .i64 (wrap64 (a2 - 1))] rfl (by (try simp only [List.map_toArray, List.map_cons, List.map_nil]); first | done | rfl | (simp only [List.length_drop, List.length_take]; rfl)) ?_; (with_reducible refine (office_within.calls a1 0 (wrap64 (a2 - 1)) true _ A7.out).mono ?_); rintro e w' ⟨rfl, ⟨nd, rfl⟩⟩; refine ⟨_, rfl, ?_⟩) | (go_at_call 73; (with_reducible refine (office_within.calls a3 0 100000 true _ A9.out).mono ?_); rintro e w' ⟨rfl, ⟨nd, rfl⟩⟩))
        go_ret
        exact ⟨by first | rfl | (simp [errW_none, errW_some] <;> rfl) | (simp [*, errW_none, errW_some] <;> rfl), by repeat (first | (with_reducible first | exact HB.out | apply below_alloc | apply pw_below_drewN | apply below_drew1 | refine below_set ?_ GE101.out) | exact HB.out)⟩
      · replace c10 := Bool.eq_false_iff.mpr c10
        subst c10
        have H1 : (some 2) = some r := by rw [if_neg (show ¬ (false = true) by decide)] at H; exact H
        clear H
        have H := H1
        clear H1
        obtain rfl := Option.some.inj H
        go_enter Try.func56, Try.ntmps56
        go_wp2_with (first | ((with_reducible refine gate_dst (N := 4) rfl ?_); refine box_event ?hg (N := 4) ?hd (cs := #[.int .i64 a0_0, .int .i64 a0_1, .slice A0_2 l0_2.length c0_2, .slice A0_3 l0_3.length c0_3]) (t := 35) ?hr ?_; (case hd => rfl); (case hg => rfl); (case hr => first | (go_simp; done) | (go_simp; rfl)); intro gb101 hg w14 hbox hb; have n0_ := Aside0.mk (below_step (by repeat (first | (with_reducible first | exact HB.out | apply below_alloc | apply pw_below_drewN | apply below_drew1) | exact HB.out)) hb); have n1_ := Aside0.mk (hbox); have n2_ := Aside0.mk ((by rw [hg]; exact (below_size (by repeat (first | (with_reducible first | exact HB.out | apply below_alloc | apply pw_below_drewN | apply below_drew1) | exact HB.out))) : w.heap.size ≤ gb101)); have n3_ := Aside0.mk ((by rw [hg]; exact (below_size (by repeat (first | (with_reducible first | exact HB.out | apply below_alloc | apply pw_below_drewN | apply below_drew1) | exact HB.out))) : w.heap.size ≤ gb101)); clear HB; have HB := n0_; have BK101 := n1_; have GW101 := n2_; have GE101 := n3_; clear n0_ n1_ n2_ n3_; clear hb hbox hg; have hcz15_0 : w14.cell? ⟨gb101, 0, none⟩ = some (.int .i64 a0_0) := (blk_cell BK101.out 0).trans rfl; have hcz15_1 : w14.cell? ⟨gb101, 1, none⟩ = some (.int .i64 a0_1) := (blk_cell BK101.out 1).trans rfl; have hcz15_2 : w14.cell? ⟨gb101, 2, none⟩ = some (.slice A0_2 l0_2.length c0_2) := (blk_cell BK101.out 2).trans rfl; have hcz15_3 : w14.cell? ⟨gb101, 3, none⟩ = some (.slice A0_3 l0_3.length c0_3) := (blk_cell BK101.out 3).trans rfl; have hfz15_0 := blk_frozen BK101.out 0; have hfz15_1 := blk_frozen BK101.out 1; have hfz15_2 := blk_frozen BK101.out 2; have hfz15_3 := blk_frozen BK101.out 3) | ((with_reducible refine gate_callee (f := 61) rfl ?_); refine goesL_ (some 11) rfl rfl Try.func61 (by kernel_rfl) rfl #[.agg #[.int .i64 a0_0, .int .i64 a0_1, .slice A0_2 l0_2.length c0_2, .slice A0_3 l0_3.length c0_3]] rfl (by (try simp only [List.map_toArray, List.map_cons, List.map_nil]); first | done | rfl | (simp only [List.length_drop, List.length_take]; rfl)) ?_; (with_reducible refine (office_Roll_check.calls a0_0 a0_1 _ _ l0_2 _ _ l0_3 t102 _ ?side1 ?side2 ?side3 ?side4 A5.out).mono ?_); (case side1 => repeat (first | exact (Kd.C_below HR0_2.out HB.out) | (with_reducible refine Kd.C_alloc ?_ _) | (with_reducible refine Kd.C_drewN ?_ _) | (with_reducible refine Kd.C_drew ?_))); (case side2 => exact HC0_2.out); (case side3 => repeat (first | exact (Kd.C_below HR0_3.out HB.out) | (with_reducible refine Kd.C_alloc ?_ _) | (with_reducible refine Kd.C_drewN ?_ _) | (with_reducible refine Kd.C_drew ?_))); (case side4 => exact HC0_3.out); rintro e w16 ⟨rfl, hb⟩; refine ⟨_, rfl, ?_⟩; have n0_ := Aside0.mk (blk_below (g := gb101) (o := .cells #[.int .i64 a0_0, .int .i64 a0_1, .slice A0_2 l0_2.length c0_2, .slice A0_3 l0_3.length c0_3] 35 (0, 0)) (by (with_reducible repeat (first | refine blk_drewN ?_ _ | refine blk_drew ?_ | refine blk_alloc ?_ _)); exact BK101.out) hb); have n1_ := Aside0.mk (below_step (by repeat (first | (with_reducible first | exact HB.out | apply below_alloc | apply pw_below_drewN | apply below_drew1 | refine below_set ?_ GE101.out) | exact HB.out)) hb); clear BK101; clear HB; have BK101 := n0_; have HB := n1_; clear n0_ n1_; (try clear hb); (try clear hb2); (try clear hk); (try clear hi)) | ((with_reducible refine gate_callee (f := 73) rfl ?_); refine goesL_ (some 18) rfl rfl Try.func73 (by kernel_rfl) rfl #[.int .i64 a1, .int .i64 0, .int .i64 (wrap64 (a2 - 1))] rfl (by (try simp only [List.map_toArray, List.map_cons, List.map_nil]); first | done | rfl | (simp only [List.length_drop, List.length_take]; rfl)) ?_; (with_reducible refine (office_within.calls a1 0 (wrap64 (a2 - 1)) true _ A7.out).mono ?_); rintro e w' ⟨rfl, ⟨nd, rfl⟩⟩; refine ⟨_, rfl, ?_⟩) | (go_at_call 73; (with_reducible refine (office_within.calls a3 0 100000 false _ A9.out).mono ?_); rintro e w' ⟨rfl, ⟨nd, rfl⟩⟩))
        go_ret
        exact ⟨by first | rfl | (simp [errW_none, errW_some] <;> rfl) | (simp [*, errW_none, errW_some] <;> rfl), by repeat (first | (with_reducible first | exact HB.out | apply below_alloc | apply pw_below_drewN | apply below_drew1 | refine below_set ?_ GE101.out) | exact HB.out)⟩
    · replace c8 := Bool.eq_false_iff.mpr c8
      subst c8
      have H1 : (some 2) = some r := by rw [if_neg (show ¬ (false = true) by decide)] at H; exact H
      clear H
      have H := H1
      clear H1
      obtain rfl := Option.some.inj H
      go_enter Try.func56, Try.ntmps56
      go_wp2_with (first | ((with_reducible refine gate_dst (N := 4) rfl ?_); refine box_event ?hg (N := 4) ?hd (cs := #[.int .i64 a0_0, .int .i64 a0_1, .slice A0_2 l0_2.length c0_2, .slice A0_3 l0_3.length c0_3]) (t := 35) ?hr ?_; (case hd => rfl); (case hg => rfl); (case hr => first | (go_simp; done) | (go_simp; rfl)); intro gb101 hg w17 hbox hb; have n0_ := Aside0.mk (below_step (by repeat (first | (with_reducible first | exact HB.out | apply below_alloc | apply pw_below_drewN | apply below_drew1) | exact HB.out)) hb); have n1_ := Aside0.mk (hbox); have n2_ := Aside0.mk ((by rw [hg]; exact (below_size (by repeat (first | (with_reducible first | exact HB.out | apply below_alloc | apply pw_below_drewN | apply below_drew1) | exact HB.out))) : w.heap.size ≤ gb101)); have n3_ := Aside0.mk ((by rw [hg]; exact (below_size (by repeat (first | (with_reducible first | exact HB.out | apply below_alloc | apply pw_below_drewN | apply below_drew1) | exact HB.out))) : w.heap.size ≤ gb101)); clear HB; have HB := n0_; have BK101 := n1_; have GW101 := n2_; have GE101 := n3_; clear n0_ n1_ n2_ n3_; clear hb hbox hg; have hcz18_0 : w17.cell? ⟨gb101, 0, none⟩ = some (.int .i64 a0_0) := (blk_cell BK101.out 0).trans rfl; have hcz18_1 : w17.cell? ⟨gb101, 1, none⟩ = some (.int .i64 a0_1) := (blk_cell BK101.out 1).trans rfl; have hcz18_2 : w17.cell? ⟨gb101, 2, none⟩ = some (.slice A0_2 l0_2.length c0_2) := (blk_cell BK101.out 2).trans rfl; have hcz18_3 : w17.cell? ⟨gb101, 3, none⟩ = some (.slice A0_3 l0_3.length c0_3) := (blk_cell BK101.out 3).trans rfl; have hfz18_0 := blk_frozen BK101.out 0; have hfz18_1 := blk_frozen BK101.out 1; have hfz18_2 := blk_frozen BK101.out 2; have hfz18_3 := blk_frozen BK101.out 3) | ((with_reducible refine gate_callee (f := 61) rfl ?_); refine goesL_ (some 11) rfl rfl Try.func61 (by kernel_rfl) rfl #[.agg #[.int .i64 a0_0, .int .i64 a0_1, .slice A0_2 l0_2.length c0_2, .slice A0_3 l0_3.length c0_3]] rfl (by (try simp only [List.map_toArray, List.map_cons, List.map_nil]); first | done | rfl | (simp only [List.length_drop, List.length_take]; rfl)) ?_; (with_reducible refine (office_Roll_check.calls a0_0 a0_1 _ _ l0_2 _ _ l0_3 t102 _ ?side1 ?side2 ?side3 ?side4 A5.out).mono ?_); (case side1 => repeat (first | exact (Kd.C_below HR0_2.out HB.out) | (with_reducible refine Kd.C_alloc ?_ _) | (with_reducible refine Kd.C_drewN ?_ _) | (with_reducible refine Kd.C_drew ?_))); (case side2 => exact HC0_2.out); (case side3 => repeat (first | exact (Kd.C_below HR0_3.out HB.out) | (with_reducible refine Kd.C_alloc ?_ _) | (with_reducible refine Kd.C_drewN ?_ _) | (with_reducible refine Kd.C_drew ?_))); (case side4 => exact HC0_3.out); rintro e w19 ⟨rfl, hb⟩; refine ⟨_, rfl, ?_⟩; have n0_ := Aside0.mk (blk_below (g := gb101) (o := .cells #[.int .i64 a0_0, .int .i64 a0_1, .slice A0_2 l0_2.length c0_2, .slice A0_3 l0_3.length c0_3] 35 (0, 0)) (by (with_reducible repeat (first | refine blk_drewN ?_ _ | refine blk_drew ?_ | refine blk_alloc ?_ _)); exact BK101.out) hb); have n1_ := Aside0.mk (below_step (by repeat (first | (with_reducible first | exact HB.out | apply below_alloc | apply pw_below_drewN | apply below_drew1 | refine below_set ?_ GE101.out) | exact HB.out)) hb); clear BK101; clear HB; have BK101 := n0_; have HB := n1_; clear n0_ n1_; (try clear hb); (try clear hb2); (try clear hk); (try clear hi)) | ((with_reducible refine gate_callee (f := 73) rfl ?_); refine goesL_ (some 18) rfl rfl Try.func73 (by kernel_rfl) rfl #[.int .i64 a1, .int .i64 0, .int .i64 (wrap64 (a2 - 1))] rfl (by (try simp only [List.map_toArray, List.map_cons, List.map_nil]); first | done | rfl | (simp only [List.length_drop, List.length_take]; rfl)) ?_; (with_reducible refine (office_within.calls a1 0 (wrap64 (a2 - 1)) false _ A7.out).mono ?_); rintro e w' ⟨rfl, ⟨nd, rfl⟩⟩; refine ⟨_, rfl, ?_⟩))
      go_ret
      exact ⟨by first | rfl | (simp [errW_none, errW_some] <;> rfl) | (simp [*, errW_none, errW_some] <;> rfl), by repeat (first | (with_reducible first | exact HB.out | apply below_alloc | apply pw_below_drewN | apply below_drew1 | refine below_set ?_ GE101.out) | exact HB.out)⟩
  · rw [if_neg c6] at H
    have c6b0 : (t102 == 0) = false := beq_eq_false_iff_ne.mpr c6
    have c6b1 : (t102 != 0) = true := bne_iff_ne.mpr c6
    obtain rfl := Option.some.inj H
    go_enter Try.func56, Try.ntmps56
    go_wp2_with (first | ((with_reducible refine gate_dst (N := 4) rfl ?_); refine box_event ?hg (N := 4) ?hd (cs := #[.int .i64 a0_0, .int .i64 a0_1, .slice A0_2 l0_2.length c0_2, .slice A0_3 l0_3.length c0_3]) (t := 35) ?hr ?_; (case hd => rfl); (case hg => rfl); (case hr => first | (go_simp; done) | (go_simp; rfl)); intro gb101 hg w20 hbox hb; have n0_ := Aside0.mk (below_step (by repeat (first | (with_reducible first | exact HB.out | apply below_alloc | apply pw_below_drewN | apply below_drew1) | exact HB.out)) hb); have n1_ := Aside0.mk (hbox); have n2_ := Aside0.mk ((by rw [hg]; exact (below_size (by repeat (first | (with_reducible first | exact HB.out | apply below_alloc | apply pw_below_drewN | apply below_drew1) | exact HB.out))) : w.heap.size ≤ gb101)); have n3_ := Aside0.mk ((by rw [hg]; exact (below_size (by repeat (first | (with_reducible first | exact HB.out | apply below_alloc | apply pw_below_drewN | apply below_drew1) | exact HB.out))) : w.heap.size ≤ gb101)); clear HB; have HB := n0_; have BK101 := n1_; have GW101 := n2_; have GE101 := n3_; clear n0_ n1_ n2_ n3_; clear hb hbox hg; have hcz21_0 : w20.cell? ⟨gb101, 0, none⟩ = some (.int .i64 a0_0) := (blk_cell BK101.out 0).trans rfl; have hcz21_1 : w20.cell? ⟨gb101, 1, none⟩ = some (.int .i64 a0_1) := (blk_cell BK101.out 1).trans rfl; have hcz21_2 : w20.cell? ⟨gb101, 2, none⟩ = some (.slice A0_2 l0_2.length c0_2) := (blk_cell BK101.out 2).trans rfl; have hcz21_3 : w20.cell? ⟨gb101, 3, none⟩ = some (.slice A0_3 l0_3.length c0_3) := (blk_cell BK101.out 3).trans rfl; have hfz21_0 := blk_frozen BK101.out 0; have hfz21_1 := blk_frozen BK101.out 1; have hfz21_2 := blk_frozen BK101.out 2; have hfz21_3 := blk_frozen BK101.out 3) | ((with_reducible refine gate_callee (f := 61) rfl ?_); refine goesL_ (some 11) rfl rfl Try.func61 (by kernel_rfl) rfl #[.agg #[.int .i64 a0_0, .int .i64 a0_1, .slice A0_2 l0_2.length c0_2, .slice A0_3 l0_3.length c0_3]] rfl (by (try simp only [List.map_toArray, List.map_cons, List.map_nil]); first | done | rfl | (simp only [List.length_drop, List.length_take]; rfl)) ?_; (with_reducible refine (office_Roll_check.calls a0_0 a0_1 _ _ l0_2 _ _ l0_3 t102 _ ?side1 ?side2 ?side3 ?side4 A5.out).mono ?_); (case side1 => repeat (first | exact (Kd.C_below HR0_2.out HB.out) | (with_reducible refine Kd.C_alloc ?_ _) | (with_reducible refine Kd.C_drewN ?_ _) | (with_reducible refine Kd.C_drew ?_))); (case side2 => exact HC0_2.out); (case side3 => repeat (first | exact (Kd.C_below HR0_3.out HB.out) | (with_reducible refine Kd.C_alloc ?_ _) | (with_reducible refine Kd.C_drewN ?_ _) | (with_reducible refine Kd.C_drew ?_))); (case side4 => exact HC0_3.out); rintro e w22 ⟨rfl, hb⟩; refine ⟨_, rfl, ?_⟩; have n0_ := Aside0.mk (blk_below (g := gb101) (o := .cells #[.int .i64 a0_0, .int .i64 a0_1, .slice A0_2 l0_2.length c0_2, .slice A0_3 l0_3.length c0_3] 35 (0, 0)) (by (with_reducible repeat (first | refine blk_drewN ?_ _ | refine blk_drew ?_ | refine blk_alloc ?_ _)); exact BK101.out) hb); have n1_ := Aside0.mk (below_step (by repeat (first | (with_reducible first | exact HB.out | apply below_alloc | apply pw_below_drewN | apply below_drew1 | refine below_set ?_ GE101.out) | exact HB.out)) hb); clear BK101; clear HB; have BK101 := n0_; have HB := n1_; clear n0_ n1_; (try clear hb); (try clear hb2); (try clear hk); (try clear hi)))
    go_ret
    exact ⟨by first | rfl | (simp [errW_none, errW_some] <;> rfl) | (simp [*, errW_none, errW_some] <;> rfl), by repeat (first | (with_reducible first | exact HB.out | apply below_alloc | apply pw_below_drewN | apply below_drew1 | refine below_set ?_ GE101.out) | exact HB.out)⟩

end Go.Proofs.Ythpheknchikodaa.P

-- Written for this claim by a program of this session (over the kit's print). Lean checks it.
namespace Go.Proofs.Ythpheknchikodaa.P
open Go.RowKit Go.Proofs.YthpheknchikodaaW.PrintWords Go.Proofs.YthpheknchikodaaW.PrintLast
set_option linter.unusedVariables false
set_option linter.unusedSimpArgs false

/-! ### office_Term_before: function 107 -/
def office_Term_before.f (a0_0 : Int) (a0_1 : Int) (a0_2 : Int) (a0_3 : Int) (a0_4 : Int) (a0_5 : Int) (a1_0 : Int) (a1_1 : Int) (a1_2 : Int) (a1_3 : Int) (a1_4 : Int) (a1_5 : Int) : Option (Bool) := some (decide (a0_4 ≤ a1_3))
set_option maxHeartbeats 8000000 in
set_option maxRecDepth 100000 in
theorem office_Term_before.calls (a0_0 : Int) (a0_1 : Int) (a0_2 : Int) (a0_3 : Int) (a0_4 : Int) (a0_5 : Int) (a1_0 : Int) (a1_1 : Int) (a1_2 : Int) (a1_3 : Int) (a1_4 : Int) (a1_5 : Int) (r : Bool) (w : World) (h : office_Term_before.f a0_0 a0_1 a0_2 a0_3 a0_4 a0_5 a1_0 a1_1 a1_2 a1_3 a1_4 a1_5 = some r) :
    Calls Try.prog 107 #[.agg #[.int .i64 a0_0, .int .i64 a0_1, .int .i64 a0_2, .int .i64 a0_3, .int .i64 a0_4, .int .i64 a0_5], .agg #[.int .i64 a1_0, .int .i64 a1_1, .int .i64 a1_2, .int .i64 a1_3, .int .i64 a1_4, .int .i64 a1_5]] w fun e w' => e = .returned (.bool r) ∧ Below w.heap.size w w' := by
  have hu59 := Try.underlying59
  have HB := Aside0.mk (Below.refl w.heap.size w)
  have H : (some (decide (a0_4 ≤ a1_3))) = some r := h
  clear h
  obtain rfl := Option.some.inj H
  go_enter Try.func107, Try.ntmps107
  go_wp2_with (first | ((with_reducible refine gate_dst (N := 2) rfl ?_); refine box_event ?hg (N := 2) ?hd (cs := #[.int .i64 a0_0, .int .i64 a0_1, .int .i64 a0_2, .int .i64 a0_3, .int .i64 a0_4, .int .i64 a0_5]) (t := 59) ?hr ?_; (case hd => rfl); (case hg => rfl); (case hr => first | (go_simp; done) | (go_simp; rfl)); intro gb101 hg w3 hbox hb; have n0_ := Aside0.mk (below_step (by repeat (first | (with_reducible first | exact HB.out | apply below_alloc | apply pw_below_drewN | apply below_drew1) | exact HB.out)) hb); have n1_ := Aside0.mk (hbox); have n2_ := Aside0.mk ((by rw [hg]; exact (below_size (by repeat (first | (with_reducible first | exact HB.out | apply below_alloc | apply pw_below_drewN | apply below_drew1) | exact HB.out))) : w.heap.size ≤ gb101)); have n3_ := Aside0.mk ((by rw [hg]; exact (below_size (by repeat (first | (with_reducible first | exact HB.out | apply below_alloc | apply pw_below_drewN | apply below_drew1) | exact HB.out))) : w.heap.size ≤ gb101)); clear HB; have HB := n0_; have BK101 := n1_; have GW101 := n2_; have GE101 := n3_; clear n0_ n1_ n2_ n3_; clear hb hbox hg) | ((with_reducible refine gate_dst (N := 3) rfl ?_); refine box_event ?hg (N := 3) ?hd (cs := #[.int .i64 a1_0, .int .i64 a1_1, .int .i64 a1_2, .int .i64 a1_3, .int .i64 a1_4, .int .i64 a1_5]) (t := 59) ?hr ?_; (case hd => rfl); (case hg => rfl); (case hr => first | (go_simp; done) | (go_simp; rfl)); intro gb102 hg w4 hbox hb; have n0_ := Aside0.mk (blk_below (g := gb101) (o := .cells #[.int .i64 a0_0, .int .i64 a0_1, .int .i64 a0_2, .int .i64 a0_3, .int .i64 a0_4, .int .i64 a0_5] 59 (0, 0)) (by (with_reducible repeat (first | refine blk_drewN ?_ _ | refine blk_drew ?_ | refine blk_alloc ?_ _)); exact BK101.out) hb); have n1_ := Aside0.mk (below_step (by repeat (first | (with_reducible first | exact HB.out | apply below_alloc | apply pw_below_drewN | apply below_drew1 | refine below_set ?_ GE101.out) | exact HB.out)) hb); have n2_ := Aside0.mk (hbox); have n3_ := Aside0.mk ((by rw [hg]; exact (below_size (by repeat (first | (with_reducible first | exact HB.out | apply below_alloc | apply pw_below_drewN | apply below_drew1 | refine below_set ?_ GE101.out) | exact HB.out))) : w.heap.size ≤ gb102)); have n4_ := Aside0.mk ((by rw [hg]; exact (below_size (by repeat (first | (with_reducible first | exact HB.out | apply below_alloc | apply pw_below_drewN | apply below_drew1 | refine below_set ?_ GE101.out) | exact HB.out))) : w.heap.size ≤ gb102)); have n5_ := Aside0.mk ((by rw [hg]; exact Nat.ne_of_lt (blk_lt (g := gb101) (o := .cells #[.int .i64 a0_0, .int .i64 a0_1, .int .i64 a0_2, .int .i64 a0_3, .int .i64 a0_4, .int .i64 a0_5] 59 (0, 0)) (by (with_reducible repeat (first | refine blk_drewN ?_ _ | refine blk_drew ?_ | refine blk_alloc ?_ _)); exact BK101.out)) : gb101 ≠ gb102)); have n6_ := Aside0.mk ((by rw [hg]; exact Nat.ne_of_gt (blk_lt (g := gb101) (o := .cells #[.int .i64 a0_0, .int .i64 a0_1, .int .i64 a0_2, .int .i64 a0_3, .int .i64 a0_4, .int .i64 a0_5] 59 (0, 0)) (by (with_reducible repeat (first | refine blk_drewN ?_ _ | refine blk_drew ?_ | refine blk_alloc ?_ _)); exact BK101.out)) : gb102 ≠ gb101)); clear BK101; clear HB; have BK101 := n0_; have HB := n1_; have BK102 := n2_; have GW102 := n3_; have GE102 := n4_; have NB101_102 := n5_; have NB102_101 := n6_; clear n0_ n1_ n2_ n3_ n4_ n5_ n6_; clear hb hbox hg; have hnb5 := NB101_102.out; have hnc5 := NB102_101.out; have hcz6_0 : w4.cell? ⟨gb101, 0, none⟩ = some (.int .i64 a0_0) := (blk_cell BK101.out 0).trans rfl; have hcz6_1 : w4.cell? ⟨gb101, 1, none⟩ = some (.int .i64 a0_1) := (blk_cell BK101.out 1).trans rfl; have hcz6_2 : w4.cell? ⟨gb101, 2, none⟩ = some (.int .i64 a0_2) := (blk_cell BK101.out 2).trans rfl; have hcz6_3 : w4.cell? ⟨gb101, 3, none⟩ = some (.int .i64 a0_3) := (blk_cell BK101.out 3).trans rfl; have hcz6_4 : w4.cell? ⟨gb101, 4, none⟩ = some (.int .i64 a0_4) := (blk_cell BK101.out 4).trans rfl; have hcz6_5 : w4.cell? ⟨gb101, 5, none⟩ = some (.int .i64 a0_5) := (blk_cell BK101.out 5).trans rfl; have hfz6_0 := blk_frozen BK101.out 0; have hfz6_1 := blk_frozen BK101.out 1; have hfz6_2 := blk_frozen BK101.out 2; have hfz6_3 := blk_frozen BK101.out 3; have hfz6_4 := blk_frozen BK101.out 4; have hfz6_5 := blk_frozen BK101.out 5; have hcz7_0 : w4.cell? ⟨gb102, 0, none⟩ = some (.int .i64 a1_0) := (blk_cell BK102.out 0).trans rfl; have hcz7_1 : w4.cell? ⟨gb102, 1, none⟩ = some (.int .i64 a1_1) := (blk_cell BK102.out 1).trans rfl; have hcz7_2 : w4.cell? ⟨gb102, 2, none⟩ = some (.int .i64 a1_2) := (blk_cell BK102.out 2).trans rfl; have hcz7_3 : w4.cell? ⟨gb102, 3, none⟩ = some (.int .i64 a1_3) := (blk_cell BK102.out 3).trans rfl; have hcz7_4 : w4.cell? ⟨gb102, 4, none⟩ = some (.int .i64 a1_4) := (blk_cell BK102.out 4).trans rfl; have hcz7_5 : w4.cell? ⟨gb102, 5, none⟩ = some (.int .i64 a1_5) := (blk_cell BK102.out 5).trans rfl; have hfz7_0 := blk_frozen BK102.out 0; have hfz7_1 := blk_frozen BK102.out 1; have hfz7_2 := blk_frozen BK102.out 2; have hfz7_3 := blk_frozen BK102.out 3; have hfz7_4 := blk_frozen BK102.out 4; have hfz7_5 := blk_frozen BK102.out 5))
  go_ret
  exact ⟨by first | rfl | (simp [errW_none, errW_some] <;> rfl) | (simp [*, errW_none, errW_some] <;> rfl), by repeat (first | (with_reducible first | exact HB.out | apply below_alloc | apply pw_below_drewN | apply below_drew1 | refine below_set ?_ GE101.out | refine below_set ?_ GE102.out) | exact HB.out)⟩

end Go.Proofs.Ythpheknchikodaa.P
