/- Contracts of functions that the laws reach, part Xb10. Conditions: each theorem names its own. -/
import Derived.Test.YthpheknchikodaaXb9
/- The walk of office.Holds. Conditions: the persons of the terms are less than 20. -/
namespace Go.Proofs.Ythpheknchikodaa.P
open Go.RowKit Go.Shelf Go.Proofs.YthpheknchikodaaW.PrintWords Go.Proofs.YthpheknchikodaaW.PrintLast
set_option linter.unusedVariables false
set_option linter.unusedSimpArgs false

/-- What holds answers, where it can. -/
def office_Roll_holds.f (k : Nat) (p o : Int) (ts : List S59) (ns : List S109) (office day : Int) : Option (Int × List Bool) :=
  (office_Roll_terms.f k p o ts ns office).bind fun l => if l.length ≤ 1000000000 ∧ (∀ x ∈ l, 0 ≤ x.f0.f0 ∧ x.f0.f0 < 20) then some (heldOf day l) else none
/-- The places of what is true. -/
def trueIdx (i : Int) : List Bool → List Int
  | [] => []
  | b :: r => if b then i :: trueIdx (i + 1) r else trueIdx (i + 1) r
theorem trueIdx_le (l : List Bool) : ∀ i : Int, (trueIdx i l).length ≤ l.length := by
  induction l with
  | nil => intro i; exact Nat.le_refl _
  | cons b l ih =>
    intro i
    have := ih (i + 1)
    cases b <;> simp [trueIdx] <;> omega
theorem trueIdx_snoc (l : List Bool) (b : Bool) : ∀ i : Int, trueIdx i (l ++ [b]) = trueIdx i l ++ (if b then [i + l.length] else []) := by
  induction l with
  | nil => intro i; cases b <;> simp [trueIdx]
  | cons a l ih =>
    intro i
    have e : i + 1 + (l.length : Int) = i + ((a :: l).length : Int) := by rw [List.length_cons]; push_cast; omega
    rw [List.cons_append, trueIdx, trueIdx, ih (i + 1), e]
    cases a <;> simp
def office_Holds.f (k : Nat) (p o : Int) (ts : List S59) (ns : List S109) (office day : Int) : Option (Int × List Int × Bool × Int) :=
  (office_Roll_asked.f p o ts ns office o day).bind fun e => if e = 0 then ((office_Roll_sound.f k p o ts ns).bind fun e2 => if e2 = 0 then ((office_Roll_holds.f k p o ts ns office day).bind fun h => some (h.1, trueIdx 0 h.2, h.1 == -1, 0)) else some (0, [], false, e2)) else some (0, [], false, e)
theorem office_Roll_holds.calls (k : Nat) (p o : Int) (A2 : Option Addr) (c2 : Nat) (ts : List S59) (A3 : Option Addr) (c3 : Nat) (ns : List S109) (office day : Int) (h : Int × List Bool) (w : World)
    (hr2 : Kd.C k59 w A2 ts.length ts) (hc2 : ts.length ≤ c2) (hr3 : Kd.C k109 w A3 ns.length ns) (hc3 : ns.length ≤ c3) (hh : office_Roll_holds.f k p o ts ns office day = some h) :
    Calls Try.prog 58 #[.agg #[.int .i64 p, .int .i64 o, .slice A2 ts.length c2, .slice A3 ns.length c3], .int .i64 office, .int .i64 day] w fun e w' => e = .returned (.agg (heldCells h)) ∧ Below w.heap.size w w' := by
  obtain ⟨l, hl, hh⟩ := Option.bind_eq_some_iff.mp hh
  split at hh
  · next hc =>
    cases hh
    exact holds_calls k p o A2 c2 ts A3 c3 ns office day l w hr2 hc2 hr3 hc3 hl hc.1 hc.2
  · cases hh
theorem office_Roll_holds.len {k : Nat} {p o : Int} {ts : List S59} {ns : List S109} {office day : Int} {h : Int × List Bool} (hh : office_Roll_holds.f k p o ts ns office day = some h) : h.2.length = 20 := by
  obtain ⟨l, hl, hh⟩ := Option.bind_eq_some_iff.mp hh
  split at hh
  · cases hh
    have h := held_len day l (-1, List.replicate 20 false)
    simp only [List.length_replicate] at h
    exact h
  · cases hh
theorem run_load_part {P : Program} (w : World) (t tt : TypeId) (g off n : Nat) (vs us : Array Value) (hag : ∀ W, (isAgg t).run P W = .ok true W) (hsz : ∀ W, (Go.sizeOf t).run P W = .ok n W) (hb : w.heap[g]? = some (.cells vs tt (0, 0))) (h2 : us.size = n) (hv : ∀ j, j < n → vs[off + j]? = us[j]?) :
    (Instr.loadAt t (.pointer (some ⟨g, off, none⟩))).run P w = .ok (.agg us) w := by
  have h := run_loadCellsFrom (P := P) (w := w) ⟨g, off, none⟩ (fun j => us.getD j undef) n 0 #[] (fun j hj => by
    rw [Nat.zero_add]
    have e : (⟨g, off, none⟩ : Addr).add j = ⟨g, off + j, none⟩ := by unfold Addr.add; split <;> simp_all
    rw [e]
    simp only [World.cell?, hb]
    have := hv j hj
    simp [this, Array.getD, show j < us.size by omega])
  have e : (((List.range n).map fun j => us.getD (0 + j) undef).toArray) = us := by
    apply Array.ext
    · simp [h2]
    · intro i h3 h4
      simp [Array.getD, h4]
  rw [e] at h
  simp only [Array.empty_append] at h
  simp [Instr.loadAt, loadVar, Instr.sureAddr, hag, hsz, Result.andThen, loadCells]
  simp [h]
section
variable {P : Program} {ops : Array Oper} {rest : List Oper} {o : Oper} {a : Act} {Q : Exit → Act → World → Prop}
/-- The load of a part. -/
theorem load_part (w : World) (hg : o.guard = none) (t tt : TypeId) (x : Operand) (hop : o.op = .load t x) (g off n : Nat) (vs us : Array Value) (hx : a.eval x = .pointer (some ⟨g, off, none⟩))
    (hag : ∀ W, (isAgg t).run P W = .ok true W) (hsz : ∀ W, (Go.sizeOf t).run P W = .ok n W) (hb : w.heap[g]? = some (.cells vs tt (0, 0))) (h2 : us.size = n) (hv : ∀ j, j < n → vs[off + j]? = us[j]?)
    (hK : wpList P ops Q rest (a.put o.dst (.agg us)) w) : wpList P ops Q (o :: rest) a w := by
  refine wpList_plain hg fun K' hK' => ?_
  have hrun := run_load_part (P := P) w t tt g off n vs us hag hsz hb h2 hv
  unfold Oper.wp
  simp [execOp, hop, hx, hrun, Result.andThen]
  exact hK' _ _ hK
/-- The element of an array that is a value. -/
theorem index_part (w : World) (hg : o.guard = none) (t e : TypeId) (x y : Operand) (hop : o.op = .index t x y) (n : Nat) (us : Array Value) (i : Int) (v : Value) (hx : a.eval x = .agg us) (hy : a.eval y = .int .i64 i)
    (hu : P.underlying t = some (.array n e)) (hag : ∀ W, (isAgg e).run P W = .ok false W) (hsz : ∀ W, (Go.sizeOf e).run P W = .ok 1 W) (h0 : 0 ≤ i) (h1 : i < n) (hv : us[i.toNat]? = some v)
    (hK : wpList P ops Q rest (a.put o.dst v) w) : wpList P ops Q (o :: rest) a w := by
  refine wpList_plain hg fun K' hK' => ?_
  have hrun : (Instr.index t (.agg us) (.int .i64 i)).run P w = .ok v w := by
    simp [Instr.index, run_underlying hu, asIntOf, go_sem, h0, h1, hsz, Result.andThen, part, hag, hv]
  unfold Oper.wp
  simp [execOp, hop, hx, hy, hrun, Result.andThen]
  exact hK' _ _ hK
end
theorem results_tmp4 {fn : Func} {t u v x : Tmp} (h : fn.results = #[.tmp t, .tmp u, .tmp v, .tmp x]) (tmps : Array Value) (P : Program) (w : World) :
    (results fn tmps).run P w = .ok (.tuple #[tmps.getD t undef, tmps.getD u undef, tmps.getD v undef, tmps.getD x undef]) w := by
  simp [results, h]
theorem heldCells_sz {h : Int × List Bool} (hl : h.2.length = 20) : (heldCells h).size = 21 := by
  unfold heldCells
  rw [List.size_toArray, List.length_cons, List.length_map, hl]

set_option maxHeartbeats 4000000 in
set_option maxRecDepth 100000 in
theorem office_Holds.calls (k : Nat) (p o : Int) (A2 : Option Addr) (c2 : Nat) (ts : List S59) (A3 : Option Addr) (c3 : Nat) (ns : List S109) (office day : Int) (r0 : Int) (r1 : List Int) (r2 : Bool) (r3 : Int) (w : World)
    (hr2 : Kd.C k59 w A2 ts.length ts) (hc2 : ts.length ≤ c2) (hr3 : Kd.C k109 w A3 ns.length ns) (hc3 : ns.length ≤ c3) (h : office_Holds.f k p o ts ns office day = some (r0, r1, r2, r3)) :
    Calls Try.prog 19 #[.agg #[.int .i64 p, .int .i64 o, .slice A2 ts.length c2, .slice A3 ns.length c3], .int .i64 office, .int .i64 day] w fun e w' => ∃ v1_ : Value, e = .returned (.tuple #[.int .i64 r0, v1_, .bool r2, .int .i64 r3]) ∧ Kd.R (Kd.int .i64) 3 w' w.heap.size (fun _ => True) v1_ r1 ∧ Below w.heap.size w w' := by
  have hu35 := Try.underlying35
  have hu114 := Try.underlying114
  have HR2 := Aside0.mk hr2
  have HR3 := Aside0.mk hr3
  have HC2 := Aside0.mk hc2
  have HC3 := Aside0.mk hc3
  clear hr2 hr3 hc2 hc3
  obtain ⟨e1, hE1, h⟩ := Option.bind_eq_some_iff.mp h
  have HE1 := Aside0.mk hE1
  clear hE1
  have HB := Aside0.mk (Below.refl w.heap.size w)
  by_cases c1 : e1 = 0
  · rw [if_pos c1] at h
    subst c1
    obtain ⟨e2, hE2, h⟩ := Option.bind_eq_some_iff.mp h
    have HE2 := Aside0.mk hE2
    clear hE2
    by_cases c3' : e2 = 0
    · rw [if_pos c3'] at h
      subst c3'
      obtain ⟨hh, hE3, h⟩ := Option.bind_eq_some_iff.mp h
      have HE3 := Aside0.mk hE3
      clear hE3
      cases h
      go_enter Try.func19, Try.ntmps19
      go_wp2_with (first | ((with_reducible refine gate_dst (N := 3) rfl ?_); refine box_event ?hg (N := 3) ?hd (cs := #[.int .i64 p, .int .i64 o, .slice A2 ts.length c2, .slice A3 ns.length c3]) (t := 35) ?hr ?_; (case hd => rfl); (case hg => rfl); (case hr => first | (go_simp; done) | (go_simp; rfl)); intro gb hg w5 hbox hb; have n0_ := Aside0.mk (below_step HB.out hb); have BK := Aside0.mk hbox; have GE := Aside0.mk ((by rw [hg]; exact Nat.le_refl _) : w.heap.size ≤ gb); clear HB; have HB := n0_; clear n0_; clear hb hbox hg; have hcz0 := (blk_cell BK.out 0).trans (show _ = some (Value.int .i64 p) from rfl); have hcz1 := (blk_cell BK.out 1).trans (show _ = some (Value.int .i64 o) from rfl); have hcz2 := (blk_cell BK.out 2).trans (show _ = some (Value.slice A2 ts.length c2) from rfl); have hcz3 := (blk_cell BK.out 3).trans (show _ = some (Value.slice A3 ns.length c3) from rfl)) | (go_at_call 56; (with_reducible refine (office_Roll_asked.calls p o A2 c2 ts A3 c3 ns office o day 0 _ (Kd.C_below HR2.out HB.out) HC2.out (Kd.C_below HR3.out HB.out) HC3.out HE1.out).mono ?_); rintro e w11 ⟨rfl, hb⟩; have n0_ := Aside0.mk (below_then HB.out HB.out.size hb); have n1_ := Aside0.mk ((hb.block _ (blk_lt BK.out)).trans BK.out); clear HB BK; have HB := n0_; have BK := n1_; clear n0_ n1_ hb; have hcz0 := (blk_cell BK.out 0).trans (show _ = some (Value.int .i64 p) from rfl); have hcz1 := (blk_cell BK.out 1).trans (show _ = some (Value.int .i64 o) from rfl); have hcz2 := (blk_cell BK.out 2).trans (show _ = some (Value.slice A2 ts.length c2) from rfl); have hcz3 := (blk_cell BK.out 3).trans (show _ = some (Value.slice A3 ns.length c3) from rfl)) | (go_at_call 57; (with_reducible refine (office_Roll_sound.calls k p o A2 c2 ts A3 c3 ns 0 _ (Kd.C_below HR2.out HB.out) HC2.out (Kd.C_below HR3.out HB.out) HC3.out HE2.out).mono ?_); rintro e w12 ⟨rfl, hb⟩; have n0_ := Aside0.mk (below_then HB.out HB.out.size hb); have n1_ := Aside0.mk ((hb.block _ (blk_lt BK.out)).trans BK.out); clear HB BK; have HB := n0_; have BK := n1_; clear n0_ n1_ hb; have hcz0 := (blk_cell BK.out 0).trans (show _ = some (Value.int .i64 p) from rfl); have hcz1 := (blk_cell BK.out 1).trans (show _ = some (Value.int .i64 o) from rfl); have hcz2 := (blk_cell BK.out 2).trans (show _ = some (Value.slice A2 ts.length c2) from rfl); have hcz3 := (blk_cell BK.out 3).trans (show _ = some (Value.slice A3 ns.length c3) from rfl)) | (go_at_call 58; (with_reducible refine (office_Roll_holds.calls k p o A2 c2 ts A3 c3 ns office day hh _ (Kd.C_below HR2.out HB.out) HC2.out (Kd.C_below HR3.out HB.out) HC3.out HE3.out).mono ?_); rintro e w13 ⟨rfl, hb⟩; have n0_ := Aside0.mk (below_then HB.out HB.out.size hb); have n1_ := Aside0.mk ((hb.block _ (blk_lt BK.out)).trans BK.out); clear HB BK; have HB := n0_; have BK := n1_; clear n0_ n1_ hb; have hcz0 := (blk_cell BK.out 0).trans (show _ = some (Value.int .i64 p) from rfl); have hcz1 := (blk_cell BK.out 1).trans (show _ = some (Value.int .i64 o) from rfl); have hcz2 := (blk_cell BK.out 2).trans (show _ = some (Value.slice A2 ts.length c2) from rfl); have hcz3 := (blk_cell BK.out 3).trans (show _ = some (Value.slice A3 ns.length c3) from rfl); generalize hvs : heldCells hh = vs; have HVS := Aside0.mk hvs; clear hvs; have HV1 := Aside0.mk (show vs.size = 21 by rw [← HVS.out]; exact heldCells_sz (office_Roll_holds.len HE3.out)); have HV2 := Aside0.mk (show ∀ v ∈ vs.toList, v.oneCell' = true by rw [← HVS.out]; exact heldCells_one hh)) | ((with_reducible refine gate_op (x := .store 114 (.tmp 12) (.tmp 32)) rfl ?_); go_loud (refine store_whole _ rfl 114 (.tmp 12) (.tmp 32) rfl w13.heap.size 21 _ vs rfl rfl Try.sizeOf114 (World.alloc_heap_new w13 _) rfl HV1.out HV2.out ?_); intro w14 hbx hgx hzx; have n0_ := Aside0.mk (pw_below_grown (below_alloc HB.out _) _ (by have := HB.out.size; simp; omega) hgx (fun k e => by cases e; exact HB.out.size)); have GX := Aside0.mk HB.out.size; have BX := Aside0.mk hbx; clear HB; have HB := n0_; clear n0_ hbx hgx hzx) | ((with_reducible refine gate_op (x := .load 112 (.tmp 33)) rfl ?_); go_loud (refine load_part _ rfl 112 114 (.tmp 33) rfl w13.heap.size 1 20 vs (hh.2.map Value.bool).toArray rfl Try.isAgg112 Try.sizeOf112 BX.out (by simp [office_Roll_holds.len HE3.out]) (fun j hj => by rw [← HVS.out, Nat.add_comm 1 j]; simp [heldCells]) ?_)))
      go_loopg [7, 35] 20 (fun kq v7 v35 w' => ∃ (L : List Int) (i : Int), v35 = .int .i64 i ∧ Aside0 (0 ≤ i ∧ kq + i.toNat = 20 ∧ L = trueIdx 0 (hh.2.take i.toNat)) ∧ Aside0 (Kd.R (Kd.int .i64) 3 w' w.heap.size (fun _ => True) v7 L) ∧ Aside0 (w'.heap[w13.heap.size]? = some (.cells vs 114 (0, 0))) ∧ Aside0 (Below w.heap.size w w'))
      case atStart => exact ⟨[], 0, rfl, ⟨by omega, by simp, by simp [trueIdx]⟩, ⟨Kd.R_nil _ _ _ _ _⟩, BX, HB⟩
      case round =>
        obtain ⟨L, i, rfl, HI, HL, BX', HB'⟩ := hrel
        clear BX HB
        have hlen := office_Roll_holds.len HE3.out
        by_cases hlt : i < 20
        · have hi0 := HI.out.1
          have hn : i.toNat < hh.2.length := by omega
          obtain ⟨bi, hbi⟩ : ∃ bi, bi = hh.2[i.toNat] := ⟨_, rfl⟩
          have hix : (hh.2.map Value.bool).toArray[i.toNat]? = some (.bool bi) := by
            rw [hbi]
            simp [hn]
          have hst := Aside0.mk (show trueIdx 0 (hh.2.take (i + 1).toNat) = L ++ (if bi then [i] else []) by
            rw [show (i + 1).toNat = i.toNat + 1 by omega, List.take_succ_eq_append_getElem hn, trueIdx_snoc, HI.out.2.2, ← hbi, List.length_take, Nat.min_eq_left (by omega), show (0 : Int) + (i.toNat : Int) = i by omega])
          have hw : wrap64 (i + 1) = i + 1 := by unfold wrap64; omega
          clear hbi hn hlen
          have c0 : decide (i < 20) = true := decide_eq_true hlt
          have HLT := Aside0.mk hlt
          replace hi0 := eq_true hi0
          replace hlt := eq_true hlt
          cases bi
          · go_wp2_with ((with_reducible refine gate_op (x := .index 112 (.tmp 34) (.tmp 35)) rfl ?_); go_loud (refine index_part _ rfl 112 4 (.tmp 34) (.tmp 35) rfl 20 (hh.2.map Value.bool).toArray i (.bool false) rfl rfl Try.underlying112 Try.isAgg4 Try.sizeOf4 HI.out.1 HLT.out hix ?_))
            go_roundg (gk - 1)
            case measure => have := HI.out.2.1; have := HLT.out; omega
            case rel => exact ⟨L, i + 1, by first | rfl | rw [hw], ⟨by have := HI.out; omega, by have := HI.out; have := HLT.out; omega, by rw [hst.out]; simp⟩, HL, BX', HB'⟩
          · have LM := Aside0.mk (show L.length ≤ 20 by
              rw [HI.out.2.2]
              exact Nat.le_trans (trueIdx_le _ 0) (by have := HI.out; have := HLT.out; rw [List.length_take]; omega))
            obtain ⟨Ao, co, eo⟩ := Kd.R_slice HL.out
            subst eo
            go_wp2_with (first | ((with_reducible refine gate_op (x := .index 112 (.tmp 34) (.tmp 35)) rfl ?_); go_loud (refine index_part _ rfl 112 4 (.tmp 34) (.tmp 35) rfl 20 (hh.2.map Value.bool).toArray i (.bool true) rfl rfl Try.underlying112 Try.isAgg4 Try.sizeOf4 HI.out.1 HLT.out hix ?_)) | ((with_reducible refine gate_builtin (b := .append) (xs := #[.tmp 40, .tmp 42]) rfl ?_); at_builtin; refine Kd.R_append (Kd.int .i64) (w0 := w) w.heap.size rfl (.tmp 40) (.tmp 42) 28 3 (.int .i64 0) 8 rfl Try.underlying28 info3 rfl (by decide) (by omega) (.slice Ao L.length co) L i [.int .i64 i] (fun _ => True) (fun _ => False) rfl rfl ?aP (fun _ hk => hk.elim) ?aF ?aO ?aB ?aS ?aL ?_; (case aP => exact rfl); (case aB => exact (by repeat (first | (with_reducible first | exact HB'.out | apply below_alloc) | exact HB'.out))); (case aF => exact (fun _ _ => trivial)); (case aO => exact (by (with_reducible repeat (first | apply Kd.R_alloc)); exact HL.out)); (case aS => exact (below_size (by repeat (first | (with_reducible first | exact HB'.out | apply below_alloc) | exact HB'.out)))); (case aL => have := LM.out; omega); intro v113 w39 ho hb hg hat; have HL2 := Aside0.mk ho; have BX2 := Aside0.mk (blk_grown (by (with_reducible repeat (refine blk_alloc ?_ _)); exact BX'.out) hg (Kd.R_ne HL.out BX'.out (by decide))); have HB2 := Aside0.mk hb; clear ho hb hg hat))
            go_roundg (gk - 1)
            case measure => have := HI.out.2.1; have := HLT.out; omega
            case rel => exact ⟨L ++ [i], i + 1, by first | rfl | rw [hw], ⟨by have := HI.out; omega, by have := HI.out; have := HLT.out; omega, by rw [hst.out]; simp⟩, HL2, BX2, HB2⟩
        · have c0 : decide (i < 20) = false := decide_eq_false hlt
          have HF := Aside0.mk (show L = trueIdx 0 hh.2 by
            have h1 := HI.out
            rw [h1.2.2, List.take_of_length_le (by omega)])
          clear hlt hlen
          have hcx0 := (blk_cell BX'.out 0).trans (show _ = some (Value.int .i64 hh.1) by rw [← HVS.out]; simp [heldCells])
          have hfx0 := blk_frozen BX'.out 0
          go_wp2
          repeat (go_quiet (fail); try go_wp2)
          ((try simp only [Exit.inBlock, Exit.then]); refine bodyPost_ret (results_tmp4 rfl _ _ _) rfl ?_)
          exact ⟨_, rfl, by (with_reducible repeat (first | apply Kd.R_alloc | apply Kd.R_drewN | apply Kd.R_drew)); rw [← HF.out]; exact HL.out, by repeat (first | (with_reducible first | exact HB'.out | apply below_alloc | apply pw_below_drewN | apply below_drew1) | exact HB'.out)⟩
    · rw [if_neg c3'] at h
      cases h
      have c3b1 : (r3 != 0) = true := bne_iff_ne.mpr c3'
      clear c3'
      go_enter Try.func19, Try.ntmps19
      go_wp2_with (first | ((with_reducible refine gate_dst (N := 3) rfl ?_); refine box_event ?hg (N := 3) ?hd (cs := #[.int .i64 p, .int .i64 o, .slice A2 ts.length c2, .slice A3 ns.length c3]) (t := 35) ?hr ?_; (case hd => rfl); (case hg => rfl); (case hr => first | (go_simp; done) | (go_simp; rfl)); intro gb hg w5 hbox hb; have n0_ := Aside0.mk (below_step HB.out hb); have BK := Aside0.mk hbox; have GE := Aside0.mk ((by rw [hg]; exact Nat.le_refl _) : w.heap.size ≤ gb); clear HB; have HB := n0_; clear n0_; clear hb hbox hg; have hcz0 := (blk_cell BK.out 0).trans (show _ = some (Value.int .i64 p) from rfl); have hcz1 := (blk_cell BK.out 1).trans (show _ = some (Value.int .i64 o) from rfl); have hcz2 := (blk_cell BK.out 2).trans (show _ = some (Value.slice A2 ts.length c2) from rfl); have hcz3 := (blk_cell BK.out 3).trans (show _ = some (Value.slice A3 ns.length c3) from rfl)) | (go_at_call 56; (with_reducible refine (office_Roll_asked.calls p o A2 c2 ts A3 c3 ns office o day 0 _ (Kd.C_below HR2.out HB.out) HC2.out (Kd.C_below HR3.out HB.out) HC3.out HE1.out).mono ?_); rintro e w11 ⟨rfl, hb⟩; have n0_ := Aside0.mk (below_then HB.out HB.out.size hb); have n1_ := Aside0.mk ((hb.block _ (blk_lt BK.out)).trans BK.out); clear HB BK; have HB := n0_; have BK := n1_; clear n0_ n1_ hb; have hcz0 := (blk_cell BK.out 0).trans (show _ = some (Value.int .i64 p) from rfl); have hcz1 := (blk_cell BK.out 1).trans (show _ = some (Value.int .i64 o) from rfl); have hcz2 := (blk_cell BK.out 2).trans (show _ = some (Value.slice A2 ts.length c2) from rfl); have hcz3 := (blk_cell BK.out 3).trans (show _ = some (Value.slice A3 ns.length c3) from rfl)) | (go_at_call 57; (with_reducible refine (office_Roll_sound.calls k p o A2 c2 ts A3 c3 ns r3 _ (Kd.C_below HR2.out HB.out) HC2.out (Kd.C_below HR3.out HB.out) HC3.out HE2.out).mono ?_); rintro e w12 ⟨rfl, hb⟩; have n0_ := Aside0.mk (below_then HB.out HB.out.size hb); have n1_ := Aside0.mk ((hb.block _ (blk_lt BK.out)).trans BK.out); clear HB BK; have HB := n0_; have BK := n1_; clear n0_ n1_ hb; have hcz0 := (blk_cell BK.out 0).trans (show _ = some (Value.int .i64 p) from rfl); have hcz1 := (blk_cell BK.out 1).trans (show _ = some (Value.int .i64 o) from rfl); have hcz2 := (blk_cell BK.out 2).trans (show _ = some (Value.slice A2 ts.length c2) from rfl); have hcz3 := (blk_cell BK.out 3).trans (show _ = some (Value.slice A3 ns.length c3) from rfl)))
      ((try simp only [Exit.inBlock, Exit.then]); refine bodyPost_ret (results_tmp4 rfl _ _ _) rfl ?_)
      exact ⟨_, rfl, Kd.R_nil _ _ _ _ _, HB.out⟩
  · rw [if_neg c1] at h
    cases h
    have c3b1 : (r3 != 0) = true := bne_iff_ne.mpr c1
    clear c1
    go_enter Try.func19, Try.ntmps19
    go_wp2_with (first | ((with_reducible refine gate_dst (N := 3) rfl ?_); refine box_event ?hg (N := 3) ?hd (cs := #[.int .i64 p, .int .i64 o, .slice A2 ts.length c2, .slice A3 ns.length c3]) (t := 35) ?hr ?_; (case hd => rfl); (case hg => rfl); (case hr => first | (go_simp; done) | (go_simp; rfl)); intro gb hg w5 hbox hb; have n0_ := Aside0.mk (below_step HB.out hb); have BK := Aside0.mk hbox; have GE := Aside0.mk ((by rw [hg]; exact Nat.le_refl _) : w.heap.size ≤ gb); clear HB; have HB := n0_; clear n0_; clear hb hbox hg; have hcz0 := (blk_cell BK.out 0).trans (show _ = some (Value.int .i64 p) from rfl); have hcz1 := (blk_cell BK.out 1).trans (show _ = some (Value.int .i64 o) from rfl); have hcz2 := (blk_cell BK.out 2).trans (show _ = some (Value.slice A2 ts.length c2) from rfl); have hcz3 := (blk_cell BK.out 3).trans (show _ = some (Value.slice A3 ns.length c3) from rfl)) | (go_at_call 56; (with_reducible refine (office_Roll_asked.calls p o A2 c2 ts A3 c3 ns office o day r3 _ (Kd.C_below HR2.out HB.out) HC2.out (Kd.C_below HR3.out HB.out) HC3.out HE1.out).mono ?_); rintro e w11 ⟨rfl, hb⟩; have n0_ := Aside0.mk (below_then HB.out HB.out.size hb); have n1_ := Aside0.mk ((hb.block _ (blk_lt BK.out)).trans BK.out); clear HB BK; have HB := n0_; have BK := n1_; clear n0_ n1_ hb; have hcz0 := (blk_cell BK.out 0).trans (show _ = some (Value.int .i64 p) from rfl); have hcz1 := (blk_cell BK.out 1).trans (show _ = some (Value.int .i64 o) from rfl); have hcz2 := (blk_cell BK.out 2).trans (show _ = some (Value.slice A2 ts.length c2) from rfl); have hcz3 := (blk_cell BK.out 3).trans (show _ = some (Value.slice A3 ns.length c3) from rfl)))
    ((try simp only [Exit.inBlock, Exit.then]); refine bodyPost_ret (results_tmp4 rfl _ _ _) rfl ?_)
    exact ⟨_, rfl, Kd.R_nil _ _ _ _ _, HB.out⟩

end Go.Proofs.Ythpheknchikodaa.P

/- The walk of office.Learn. Conditions: the indexes of the terms are places of the result. -/
namespace Go.Proofs.Ythpheknchikodaa.P
open Go.RowKit Go.Shelf Go.Proofs.YthpheknchikodaaW.PrintWords Go.Proofs.YthpheknchikodaaW.PrintLast
attribute [local go_sem] Oper.semAt_some
set_option linter.unusedVariables false
set_option linter.unusedSimpArgs false

theorem info51 : (Try.prog.info? 51).map (fun i => (i.zero, i.size, i.bytes)) = some (some (.agg #[.int .i64 0, .int .i64 0, .int .i64 0, .int .i64 0]), 4, 32) := by kernel_rfl
def learnPut (out : List S51) (l : List S122) : List S51 := l.foldl (fun out x => out.set x.f1.toNat x.f2) out
theorem learnPut_len (l : List S122) : ∀ out : List S51, (learnPut out l).length = out.length := by
  induction l with
  | nil => intro out; rfl
  | cons x l ih =>
    intro out
    have h := ih (out.set x.f1.toNat x.f2)
    rw [List.length_set] at h
    exact h
def learnFrom (k : Nat) (p o : Int) (ts : List S59) (ns : List S109) : Nat → Int → List S51 → Option (List S51)
  | 0, _, _ => none
  | q + 1, i, out => if i < o then (office_Roll_terms.f k p o ts ns i).bind fun l => if l.length ≤ 1000000000 ∧ (∀ x ∈ l, 0 ≤ x.f1 ∧ x.f1 < ts.length) then learnFrom k p o ts ns q (wrap64 (i + 1)) (learnPut out l) else none else some out
def office_Learn.f (k : Nat) (p o : Int) (ts : List S59) (ns : List S109) : Option (List S51 × Int) :=
  (office_Roll_sound.f k p o ts ns).bind fun e2 => if e2 = 0 then (if ts.length ≤ 1000000000 then ((learnFrom k p o ts ns k 0 (List.replicate ts.length z51)).bind fun l => some (l, 0)) else none) else some ([], e2)
theorem R_shape51 {w : World} {base B n : Nat} {ok : Nat → Prop} {v : Value} (h : Kd.R k51 51 w base ok v (List.replicate n z51)) (hb : ∃ b, v.ownBlock = some b ∧ B ≤ b) :
    ∃ g cap, v = .slice (some ⟨g, 0, none⟩) n cap ∧ g < w.heap.size ∧ base ≤ g ∧ B ≤ g := by
  obtain ⟨inner, ho⟩ := Kd.R_own h
  rw [List.length_replicate] at ho
  obtain ⟨b, hb1, hb2⟩ := hb
  rcases ho.2 with ⟨e, _⟩ | ⟨g, cap, cur, e, hg, hh, r⟩
  · subst e
    simp [Value.ownBlock] at hb1
  · subst e
    have : g = b := by simpa [Value.ownBlock] using hb1
    exact ⟨g, cap, rfl, blk_lt hh, hg, by omega⟩
/-- Marks of loops over iterators, none of which has deferred anything. -/
def Marks (B : Nat) (ds : List Deferred) (w : World) : Prop := ∀ d ∈ ds, ∃ D, d.target = .collected D ∧ B ≤ D ∧ w.heap[D]? = some (.deferred (some []))
def MarksNe : List Deferred → Prop
  | [] => True
  | d :: ds => (∀ d' ∈ ds, ∀ D, d.target = .collected D → d'.target ≠ .collected D) ∧ MarksNe ds
theorem leaves_marks {F : Fence} {n : Nat} {P : Program} {fn : Func} {tmps : Array Value} {R : Ending → World → Prop} (B : Nat) (I : World → Prop) (hI : ∀ w D, I w → B ≤ D → w.heap[D]? = some (.deferred (some [])) → I (w.putObj D (.deferred none)))
    (hend : ∀ w, I w → LeavesIn F n P fn tmps R [] .returning w) : ∀ (ds : List Deferred) (w : World), Marks B ds w → MarksNe ds → I w → LeavesInM F n P fn tmps R ds .returning w := by
  intro ds
  induction ds with
  | nil => exact fun w _ _ h => hend w h
  | cons d ds ih =>
    intro w hm hne h
    obtain ⟨D, hD, hB, hw⟩ := hm d (by simp)
    refine ⟨by simp, .inl ⟨D, _, hD, run_takeDeferred hw, ih _ ?_ hne.2 (hI w D h hB hw)⟩⟩
    intro d' hd'
    obtain ⟨D', hD', hB', hw'⟩ := hm d' (by simp [hd'])
    refine ⟨D', hD', hB', ?_⟩
    have : D' ≠ D := fun e => hne.1 d' hd' D hD (by rw [hD', e])
    exact (World.putObj_heap_other this).trans hw'
/-- A loop by a count that the state does not hold. -/
theorem loop_by {P : Program} {Q : Exit → Act → World → Prop} {c : Code} (J : Nat → Act → World → Prop) (round : ∀ q a w, J q a w → ∃ q', q = q' + 1 ∧ c.wp P (Exit.then (J q') Q) a w) {a : Act} {w : World} (n : Nat) (h0 : J n a w) : (Code.loop c).wp P Q a w := by
  refine wp_loop_rounds n ?_
  induction n generalizing a w with
  | zero =>
    obtain ⟨q', e, _⟩ := round 0 a w h0
    cases e
  | succ n ih =>
    obtain ⟨q', e, h⟩ := round (n + 1) a w h0
    cases e
    refine wp_mono h fun e a' w' he => ?_
    cases e <;> first | exact he | exact ih he
/-- What stands between the rounds. -/
def LI (w : World) (gb bx g n cap : Nat) (roll : Array Value) (out : List S51) (W : World) : Prop :=
  W.heap[gb]? = some (.cells roll 35 (0, 0)) ∧ W.heap[bx]? = some (.cells #[.slice (some ⟨g, 0, none⟩) n cap] 45 (0, 0)) ∧ Kd.R k51 51 W w.heap.size (fun _ => True) (.slice (some ⟨g, 0, none⟩) n cap) out ∧ Below w.heap.size w W
theorem not_row {W : World} {row : Option Nat} {B : Nat} (hr : ∀ r, row = some r → B ≤ r ∧ ∃ o : Obj, W.heap[r]? = some o ∧ o.isCells = false) {j : Nat} {cs : Array Value} {t : TypeId} (hj : W.heap[j]? = some (.cells cs t (0, 0))) : some j ≠ row := by
  intro e
  obtain ⟨_, o, ho, hc⟩ := hr j e.symm
  rw [hj] at ho
  cases ho
  cases hc
theorem LI.own {w : World} {gb bx g n cap : Nat} {roll : Array Value} (B : Nat) (hB : w.heap.size ≤ B) {β : Type} (f : β → List S51) : OwnFrom B (fun s W => LI w gb bx g n cap roll (f s) W) := by
  intro s W W' row ⟨h1, h2, h3, h4⟩ hg hr
  refine ⟨blk_grown h1 hg (not_row hr h1), blk_grown h2 hg (not_row hr h2), ?_, pw_below_grown h4 row h4.size hg (fun k e => Nat.le_trans hB (hr k e).1)⟩
  refine Kd.R_mono (Kd.R_grown (Kd.R_bound h3) hg (fun k hk => ?_)) (fun _ _ => trivial)
  obtain ⟨_, _, _, q, _, cells, hc⟩ := hk
  exact not_row hr hc
theorem Marks.own {B0 : Nat} {ds : List Deferred} (B : Nat) (hB : ∀ d ∈ ds, ∀ D, d.target = .collected D → D < B) {β : Type} : OwnFrom B (fun (_ : β) W => Marks B0 ds W) := by
  intro s W W' row h hg hr d hd
  obtain ⟨D, h1, h2, h3⟩ := h d hd
  refine ⟨D, h1, h2, blk_grown h3 hg (fun e => ?_)⟩
  have := (hr D e.symm).1
  have := hB d hd D h1
  omega
set_option maxHeartbeats 4000000 in
set_option maxRecDepth 100000 in
theorem office_Learn.calls (k : Nat) (p o : Int) (A2 : Option Addr) (c2 : Nat) (ts : List S59) (A3 : Option Addr) (c3 : Nat) (ns : List S109) (r0 : List S51) (r1 : Int) (w : World)
    (hr2 : Kd.C k59 w A2 ts.length ts) (hc2 : ts.length ≤ c2) (hr3 : Kd.C k109 w A3 ns.length ns) (hc3 : ns.length ≤ c3) (h : office_Learn.f k p o ts ns = some (r0, r1)) :
    Calls Try.prog 27 #[.agg #[.int .i64 p, .int .i64 o, .slice A2 ts.length c2, .slice A3 ns.length c3]] w fun e w' => ∃ v0_ : Value, e = .returned (.tuple #[v0_, .int .i64 r1]) ∧ Kd.R k51 51 w' w.heap.size (fun _ => True) v0_ r0 ∧ Below w.heap.size w w' := by
  have hu35 := Try.underlying35
  have hu51 := Try.underlying51
  have hu45 := Try.underlying45
  have hu122 := Try.underlying122
  have HR2 := Aside0.mk hr2
  have HR3 := Aside0.mk hr3
  have HC2 := Aside0.mk hc2
  have HC3 := Aside0.mk hc3
  clear hr2 hr3 hc2 hc3
  obtain ⟨e2, hE2, h⟩ := Option.bind_eq_some_iff.mp h
  have HE2 := Aside0.mk hE2
  clear hE2
  have HB := Aside0.mk (Below.refl w.heap.size w)
  by_cases c3' : e2 = 0
  · rw [if_pos c3'] at h
    subst c3'
    by_cases c4 : ts.length ≤ 1000000000
    · rw [if_pos c4] at h
      obtain ⟨l0, hl0, h⟩ := Option.bind_eq_some_iff.mp h
      cases h
      have HLT := Aside0.mk c4
      clear c4
      have HS0 := Aside0.mk hl0
      clear hl0
      refine (callsIn_wide (n := 9)).1 ?_
      refine callsIn_of_wp_marks Try.func27 rfl trivial ?_ rfl
      simp only [Try.ntmps27, List.size_toArray, List.length_cons, List.length_nil, Nat.reduceAdd, Nat.reduceSub, Array.replicate_succ, Array.replicate_zero, List.push_toArray, List.append_toArray, List.nil_append, List.cons_append]
      rw [wpIn_wide]
      go_wp2_with (first | ((with_reducible refine gate_dst (N := 1) rfl ?_); refine box_event ?hg (N := 1) ?hd (cs := #[.int .i64 p, .int .i64 o, .slice A2 ts.length c2, .slice A3 ns.length c3]) (t := 35) ?hr ?_; (case hd => rfl); (case hg => rfl); (case hr => first | (go_simp; done) | (go_simp; rfl)); intro gb hg w5 hbox hb; have n0_ := Aside0.mk (below_step HB.out hb); have BK := Aside0.mk hbox; have GE := Aside0.mk ((by rw [hg]; exact Nat.le_refl _) : w.heap.size ≤ gb); clear HB; have HB := n0_; clear n0_; clear hb hbox hg; have hcz0 := (blk_cell BK.out 0).trans (show _ = some (Value.int .i64 p) from rfl); have hcz1 := (blk_cell BK.out 1).trans (show _ = some (Value.int .i64 o) from rfl); have hcz2 := (blk_cell BK.out 2).trans (show _ = some (Value.slice A2 ts.length c2) from rfl); have hcz3 := (blk_cell BK.out 3).trans (show _ = some (Value.slice A3 ns.length c3) from rfl)) | (go_at_call 57; (with_reducible refine (office_Roll_sound.calls k p o A2 c2 ts A3 c3 ns 0 _ (Kd.C_below HR2.out HB.out) HC2.out (Kd.C_below HR3.out HB.out) HC3.out HE2.out).mono ?_); rintro e w12 ⟨rfl, hb⟩; have n0_ := Aside0.mk (below_then HB.out HB.out.size hb); have n1_ := Aside0.mk ((hb.block _ (blk_lt BK.out)).trans BK.out); clear HB BK; have HB := n0_; have BK := n1_; clear n0_ n1_ hb; have hcz0 := (blk_cell BK.out 0).trans (show _ = some (Value.int .i64 p) from rfl); have hcz1 := (blk_cell BK.out 1).trans (show _ = some (Value.int .i64 o) from rfl); have hcz2 := (blk_cell BK.out 2).trans (show _ = some (Value.slice A2 ts.length c2) from rfl); have hcz3 := (blk_cell BK.out 3).trans (show _ = some (Value.slice A3 ns.length c3) from rfl)) | ((with_reducible refine gate_dst (N := 16) rfl ?_); refine Kd.R_make k51 (w0 := w) w.heap.size 51 rfl (N := 16) rfl 45 _ _ rfl (ts.length : Int) rfl rfl Try.underlying45 (.agg #[.int .i64 0, .int .i64 0, .int .i64 0, .int .i64 0]) 32 info51 rfl (by decide) (by omega) z51 (ok := fun _ => True) (okp := fun _ => True) (k51_mkM _ _ _ z51) (fun _ hk => hk) trivial (by omega) (by have := HLT.out; omega) HB.out HB.out.size ?_; intro v51 w20 hR20 hB20 hg20 hb20; rw [Int.toNat_natCast] at hR20; obtain ⟨g, cap, ev, hgl, hgb, hgB⟩ := R_shape51 hR20 hb20; subst ev; have n0_ := Aside0.mk hB20; have n1_ := Aside0.mk (blk_grown BK.out hg20 (by simp)); clear HB BK; have HB := n0_; have BK := n1_; have HR := Aside0.mk hR20; have HGL := Aside0.mk hgl; have HGB := Aside0.mk hgb; have HGB2 := Aside0.mk hgB; clear n0_ n1_ hR20 hB20 hg20 hb20 hgl hgb hgB; have hczA := fun O => (blk_cell (blk_alloc BK.out O) 1).trans (show _ = some (Value.int .i64 o) from rfl)))
      have HI0 : LI w gb w20.heap.size g ts.length cap #[.int .i64 p, .int .i64 o, .slice A2 ts.length c2, .slice A3 ns.length c3] (List.replicate ts.length z51) (w20.alloc (.cells #[.slice (some ⟨g, 0, none⟩) ts.length cap] 45)) := ⟨blk_alloc BK.out _, World.alloc_heap_new _ _, Kd.R_alloc HR.out _, below_alloc HB.out _⟩
      have HI0 := Aside0.mk HI0
      have HSZ := Aside0.mk (show w.heap.size ≤ w20.heap.size from HB.out.size)
      clear hczA hcz0 hcz1 hcz2 hcz3 HB BK HR
      refine loop_by (fun q a W => ∃ (u6 u7 u20 u21 u22 u23 u24 u25 u26 u27 u28 u29 u30 u31 u32 u33 : Value) (i : Int) (out : List S51) (ds : List Deferred), a = { tmps := #[.agg #[.int .i64 p, .int .i64 o, .slice A2 ts.length c2, .slice A3 ns.length c3], .pointer (some ⟨gb, 0, none⟩), .slice none 0 0, .int .i64 0, .int .i64 0, .pointer (some ⟨w20.heap.size, 0, none⟩), u6, u7, .agg #[.int .i64 p, .int .i64 o, .slice A2 ts.length c2, .slice A3 ns.length c3], .int .i64 0, .int .i64 0, .bool false, undef, .pointer (some ⟨gb, 2, none⟩), .slice A2 ts.length c2, .int .i64 ts.length, .slice (some ⟨g, 0, none⟩) ts.length cap, .pointer (some ⟨gb, 1, none⟩), .int .i64 o, .int .i64 i, u20, u21, u22, u23, u24, u25, u26, u27, u28, u29, u30, u31, u32, u33], defers := ds } ∧ learnFrom k p o ts ns q i out = some r0 ∧ LI w gb w20.heap.size g ts.length cap #[.int .i64 p, .int .i64 o, .slice A2 ts.length c2, .slice A3 ns.length c3] out W ∧ Marks (w20.heap.size + 1) ds W ∧ MarksNe ds ∧ out.length = ts.length) ?_ k ⟨undef, undef, undef, undef, undef, undef, undef, undef, undef, undef, undef, undef, undef, undef, undef, undef, 0, List.replicate ts.length z51, [], rfl, HS0.out, HI0.out, fun d hd => (by cases hd), trivial, List.length_replicate⟩
      clear HI0 HS0
      rintro q0 a W ⟨u6, u7, u20, u21, u22, u23, u24, u25, u26, u27, u28, u29, u30, u31, u32, u33, i, out, ds, rfl, hq, hI, hM, hN, hlen⟩
      cases q0 with
      | zero => exact absurd hq (by simp [learnFrom])
      | succ q =>
        refine ⟨q, rfl, ?_⟩
        rw [learnFrom] at hq
        by_cases hlt : i < o
        · rw [if_pos hlt] at hq
          obtain ⟨l, hl, hq⟩ := Option.bind_eq_some_iff.mp hq
          by_cases hc : l.length ≤ 1000000000 ∧ (∀ x ∈ l, 0 ≤ x.f1 ∧ x.f1 < ts.length)
          · rw [if_pos hc] at hq
            have c0 : decide (i < o) = true := decide_eq_true hlt
            have HL := Aside0.mk hl
            have HC := Aside0.mk hc
            have HQ := Aside0.mk hq
            have HI := Aside0.mk hI
            have HM := Aside0.mk hM
            have HN := Aside0.mk hN
            have HLEN := Aside0.mk hlen
            have hcz0 := (blk_cell hI.1 0).trans (show _ = some (Value.int .i64 p) from rfl)
            have hcz1 := (blk_cell hI.1 1).trans (show _ = some (Value.int .i64 o) from rfl)
            have hcz2 := (blk_cell hI.1 2).trans (show _ = some (Value.slice A2 ts.length c2) from rfl)
            have hcz3 := (blk_cell hI.1 3).trans (show _ = some (Value.slice A3 ns.length c3) from rfl)
            clear hlt hl hc hq hI hM hN hlen
            go_wp2_with fail
            refine (office_Roll_terms.calls k p o A2 c2 ts A3 c3 ns i l W (Kd.C_below HR2.out HI.out.2.2.2) HC2.out (Kd.C_below HR3.out HI.out.2.2.2) HC3.out HL.out).mono ?_
            rintro e w5 ⟨v0, b, rfl, hb5, hlb, hR5, hB5⟩
            obtain ⟨A, c, gg, rfl, hg1, hg2, hC⟩ := R_inblock hR5 hlb (blk_lt hb5)
            have hI5 : LI w gb w20.heap.size g ts.length cap #[.int .i64 p, .int .i64 o, .slice A2 ts.length c2, .slice A3 ns.length c3] out w5 := by
              obtain ⟨h1, h2, h3, h4⟩ := HI.out
              exact ⟨(hB5.block _ (blk_lt h1)).trans h1, (hB5.block _ (blk_lt h2)).trans h2, Kd.R_below h3 hB5, below_then h4 h4.size hB5⟩
            have hM5 : Marks (w20.heap.size + 1) ds w5 := fun d hd => by
              obtain ⟨D, h1, h2, h3⟩ := HM.out d hd
              exact ⟨D, h1, h2, (hB5.block _ (blk_lt h3)).trans h3⟩
            have hD5 : ∀ d ∈ ds, ∀ D, d.target = .collected D → D < W.heap.size := fun d hd D hD => by
              obtain ⟨D', h1, h2, h3⟩ := HM.out d hd
              rw [hD] at h1
              cases h1
              exact blk_lt h3
            have hs5 : W.heap.size ≤ w5.heap.size := hB5.size
            have hgW : g < W.heap.size ∧ w20.heap.size < W.heap.size ∧ gb < W.heap.size := ⟨by
              obtain ⟨inner, ho⟩ := Kd.R_own HI.out.2.2.1
              rcases ho.2 with ⟨e, _⟩ | ⟨g', cap', cur, e, _, hh, _⟩
              · cases e
              · have e2 : g = g' := by
                  injection e with e1
                  injection e1 with e2
                  injection e2
                rw [e2]
                exact blk_lt hh, blk_lt HI.out.2.1, blk_lt HI.out.1⟩
            have HI5 := Aside0.mk hI5
            have HM5 := Aside0.mk hM5
            have HD5 := Aside0.mk hD5
            have Hb5 := Aside0.mk hb5
            have HCC := Aside0.mk hC
            have Hg2 := Aside0.mk hg2
            have HGW := Aside0.mk hgW
            obtain ⟨L, hL⟩ : ∃ L : List {x : S122 // 0 ≤ x.f1 ∧ x.f1 < ts.length}, l = L.map Subtype.val := ⟨l.attachWith _ HC.out.2, by rw [List.attachWith_map_subtype_val]⟩
            have HLL := Aside0.mk hL
            have Hs5 := Aside0.mk hs5
            have Hlb := Aside0.mk hlb
            have Hlg := Aside0.mk hg1
            clear hcz0 hcz1 hcz2 hcz3 hR5 hB5 hb5 hC hg1 hg2 hlb hL hI5 hM5 hD5 hgW hs5
            go_wp2
            rw [← wpIn_wide (n := 9)]
            refine wpIn_rangeFunc_ownH (F := Fence.wide) (n := 9) rfl (by omega) (gf := 100) (lb := #[.pointer (some ⟨b, 0, none⟩)]) rfl trivial (enters_of Try.func100 (by kernel_rfl) rfl)
              (iter_stops Subtype.val L Fence.wide 8 trivial rfl (by omega) b gg c A l HLL.out HC.out.1 w5 Hb5.out Hg2.out HCC.out)
              (fun h1 h2 => ⟨h1.1.trans h2.1, Nat.le_trans h1.2 h2.2⟩) (fun W lw o o' hl _ _ _ => ⟨Keeps2.putObj (blk_lt Hb5.out) Hg2.out W lw o o' hl, by simp⟩) (Below.refl _ _) (fun _ => rfl)
              (fun pre W' => LI w gb w20.heap.size g ts.length cap #[.int .i64 p, .int .i64 o, .slice A2 ts.length c2, .slice A3 ns.length c3] (learnPut out (pre.map Subtype.val)) W' ∧ Marks (w20.heap.size + 1) ds W' ∧ w5.heap.size ≤ W'.heap.size)
              (fun _ _ _ => False)
              (OwnFrom.and (LI.own _ (by have := HI5.out.2.2.2.size; omega) _) (OwnFrom.and (Marks.own _ (fun d hd D hD => Nat.lt_of_lt_of_le (HD5.out d hd D hD) Hs5.out)) (fun _ W W' row hs hg _ => Nat.le_trans hs hg.size)))
              (fun _ _ _ _ _ hs _ _ => hs)
              ⟨HI5.out, HM5.out, Nat.le_refl _⟩
              (fun x a' W' => ∃ Bx, a' = { tmps := #[.agg #[.int .i64 p, .int .i64 o, .slice A2 ts.length c2, .slice A3 ns.length c3], .pointer (some ⟨gb, 0, none⟩), .slice none 0 0, .int .i64 0, .int .i64 0, .pointer (some ⟨w20.heap.size, 0, none⟩), .int .i64 i, .pointer (some ⟨Bx, 0, none⟩), .agg #[.int .i64 p, .int .i64 o, .slice A2 ts.length c2, .slice A3 ns.length c3], .int .i64 0, .int .i64 0, .bool false, undef, .pointer (some ⟨gb, 2, none⟩), .slice A2 ts.length c2, .int .i64 ts.length, .slice (some ⟨g, 0, none⟩) ts.length cap, .pointer (some ⟨gb, 1, none⟩), .int .i64 o, .int .i64 i, .bool true, .int .i64 i, .agg #[.int .i64 p, .int .i64 o, .slice A2 ts.length c2, .slice A3 ns.length c3], .int .i64 i, .func (.func 100) #[] #[.pointer (some ⟨b, 0, none⟩)], .agg (enc122 x.1).toArray, u26, u27, u28, u29, u30, u31, u32, u33], defers := [] } ∧ W'.heap[Bx]? = some (.cells (enc122 x.1).toArray 122 (0, 0)) ∧ w5.heap.size ≤ Bx)
              (fun x a' => fun _ W W' row hs hg hr => ?ax) ?assign ?body ?done ?stop
            case ax =>
              obtain ⟨Bx, e1, e2, e3⟩ := hs
              exact ⟨Bx, e1, blk_grown e2 hg (not_row hr e2), e3⟩
            case stop =>
              rintro D cc pre W _ _ h _
              exact h.elim
            case assign =>
              intro lp pre x W' K hI hK
              have hI' := Aside0.mk hI
              have hs := hI.2.2
              have HK := Aside0.mk hK
              clear hI hK
              simp only [enc122]
              gi_wp2
              refine HK.out _ _ ((KeepsOthers.alloc W' _).from _) ⟨Keeps2.below (below_alloc (Below.refl _ _) _) (by have := blk_lt Hb5.out; omega) (by have := Hg2.out; omega), by simp⟩ ⟨(LI.own w5.heap.size (by have := HI5.out.2.2.2.size; omega) (fun pre : List {x : S122 // 0 ≤ x.f1 ∧ x.f1 < ts.length} => learnPut out (pre.map Subtype.val))).alloc _ hI'.out.1, (Marks.own w5.heap.size (fun d hd D hD => Nat.lt_of_lt_of_le (HD5.out d hd D hD) Hs5.out) (β := Unit)).alloc (s := ()) _ hI'.out.2.1, by simp; omega⟩ ⟨W'.heap.size, rfl, World.alloc_heap_new _ _, hs⟩
            case body =>
              rintro lp pre x a' W' hlw hlr ⟨hI, hM, hs⟩ ⟨Bx, rfl, hx, hBx⟩ hpl
              obtain ⟨hx0, hx1⟩ := x.2
              obtain ⟨o1, ho1⟩ : ∃ o1, o1 = learnPut out (pre.map Subtype.val) := ⟨_, rfl⟩
              rw [← ho1] at hI
              obtain ⟨h1, h2, h3, h4⟩ := hI
              have hc2x := (blk_cell h2 0).trans (show _ = some (Value.slice (some ⟨g, 0, none⟩) ts.length cap) from rfl)
              have hxc := fun j => blk_cell hx j
              simp only [enc122] at hxc
              obtain ⟨ce, hcl, hME, hcc, hfr⟩ := Kd.R_elem h3 z51 x.1.f1 hx0 hx1
              obtain rfl := k51_openM hME
              have hE0 : W'.cell? ⟨g, x.1.f1.toNat * 4, none⟩ = some (.int .i64 (o1.getD x.1.f1.toNat z51).f0.f0) := hcc 0 _ rfl
              have hE1 : W'.cell? ⟨g, x.1.f1.toNat * 4 + 1, none⟩ = some (.int .i64 (o1.getD x.1.f1.toNat z51).f0.f1) := hcc 1 _ rfl
              have hE2 : W'.cell? ⟨g, x.1.f1.toNat * 4 + 2, none⟩ = some (.int .i64 (o1.getD x.1.f1.toNat z51).f1.f0) := hcc 2 _ rfl
              have hE3 : W'.cell? ⟨g, x.1.f1.toNat * 4 + 3, none⟩ = some (.int .i64 (o1.getD x.1.f1.toNat z51).f1.f1) := hcc 3 _ rfl
              have hF0 : W'.frozen? ⟨g, x.1.f1.toNat * 4, none⟩ = false := hfr 0
              have hF1 : W'.frozen? ⟨g, x.1.f1.toNat * 4 + 1, none⟩ = false := hfr 1
              have hF2 : W'.frozen? ⟨g, x.1.f1.toNat * 4 + 2, none⟩ = false := hfr 2
              have hF3 : W'.frozen? ⟨g, x.1.f1.toNat * 4 + 3, none⟩ = false := hfr 3
              have HS := Aside0.mk (Kd.R_seg h3 x.1.f1 hx0 hx1 (seg := [.int .i64 x.1.f2.f0.f0, .int .i64 x.1.f2.f0.f1, .int .i64 x.1.f2.f1.f0, .int .i64 x.1.f2.f1.f1]) (j := 0) hcl hcc (show 4 ≤ 4 from Nat.le_refl _) (x' := x.1.f2) (k51_mkM _ _ _ x.1.f2) (fun _ hk => hk))
              have HR6 := Aside0.mk h3
              have H1 := Aside0.mk h1
              have H2 := Aside0.mk h2
              have H4 := Aside0.mk h4
              have HX := Aside0.mk hx
              have HO1 := Aside0.mk ho1
              have HM' := Aside0.mk hM
              replace hx0 := eq_true hx0
              replace hx1 := eq_true hx1
              clear h1 h2 h3 h4 hx hcl hcc hfr hME ho1 hM hlr
              simp only [enc122]
              gi_wp2
              have HB1 : W.heap.size ≤ b := by have := Hlb.out; exact this
              have HB2 : W.heap.size ≤ gg := Hlg.out
              have hgw := HGW.out
              have hs6 := Hs5.out
              obtain ⟨hRx, hGx⟩ := HS.out
              have hne1 := Kd.R_ne HR6.out H1.out (by decide)
              have hne2 := Kd.R_ne HR6.out H2.out (by decide)
              refine ⟨KeepsFrom.of_grownBy hGx (fun j e => by cases e; omega), ⟨⟨hGx.block b (Nat.lt_of_lt_of_le (blk_lt Hb5.out) hs) (by intro e; cases e; omega), hGx.block gg (Nat.lt_of_lt_of_le Hg2.out hs) (by intro e; cases e; omega)⟩, hGx.size⟩, ⟨blk_grown H1.out hGx hne1, blk_grown H2.out hGx hne2, ?_, pw_below_grown H4.out _ H4.out.size hGx (fun k e => by cases e; exact HGB.out)⟩, fun d hd => ?_, Nat.le_trans hs hGx.size⟩
              · have hE : learnPut out ((pre ++ [x]).map Subtype.val) = o1.set x.1.f1.toNat x.1.f2 := by rw [HO1.out]; simp [learnPut]
                rw [hE]
                exact hRx
              · obtain ⟨D, q1, q2, q3⟩ := HM'.out d hd
                exact ⟨D, q1, q2, blk_grown q3 hGx (fun e => by cases e; have := HGL.out; omega)⟩
            case done =>
              rintro D ys W' hD rfl ⟨hI, hM, hs⟩ hK
              rw [← HLL.out] at hI
              have HK := Aside0.mk hK
              have HI6 := Aside0.mk hI
              have HM6 := Aside0.mk hM
              have hw : wrap64 (i + 1) = wrap64 (i + 1) := rfl
              clear hI hM hK
              go_wp2
              have hDs : Marks (w20.heap.size + 1) ({ target := .collected D, args := #[] } :: ds) W' := fun d hd => by
                rcases List.mem_cons.1 hd with rfl | hd
                · exact ⟨D, rfl, by have := Hs5.out; have := HGW.out; omega, HK.out⟩
                · exact HM6.out d hd
              have hNs : MarksNe ({ target := .collected D, args := #[] } :: ds) := ⟨fun d' hd' D' e e' => by
                cases e
                have := HD5.out d' hd' _ e'
                have := Hs5.out
                omega, HN.out⟩
              refine ⟨.int .i64 i, u7, .bool true, .int .i64 i, .agg #[.int .i64 p, .int .i64 o, .slice A2 ts.length c2, .slice A3 ns.length c3], .int .i64 i, .func (.func 100) #[] #[.pointer (some ⟨b, 0, none⟩)], u25, u26, u27, u28, u29, u30, u31, .int .i64 (wrap64 (i + 1)), u33, wrap64 (i + 1), learnPut out l, { target := .collected D, args := #[] } :: ds, ?_, HQ.out, HI6.out, hDs, hNs, ?_⟩
              · simp
              · rw [learnPut_len]; exact HLEN.out
          · rw [if_neg hc] at hq
            cases hq
        · rw [if_neg hlt] at hq
          cases hq
          have c0 : decide (i < o) = false := decide_eq_false hlt
          have hbx := (blk_cell hI.2.1 0).trans (show _ = some (Value.slice (some ⟨g, 0, none⟩) ts.length cap) from rfl)
          have HI := Aside0.mk hI
          have HM := Aside0.mk hM
          have HN := Aside0.mk hN
          clear hlt hI hM hN hlen
          go_wp2
          refine leaves_marks (w20.heap.size + 1) (fun W' => Kd.R k51 51 W' w.heap.size (fun _ => True) (.slice (some ⟨g, 0, none⟩) ts.length cap) r0 ∧ Below w.heap.size w W') ?_ ?_ ds W HM.out HN.out ⟨HI.out.2.2.1, HI.out.2.2.2⟩
          · rintro W' D ⟨q1, q2⟩ hD hW
            have hg := grownBy_putObj' W' D (.deferred none)
            refine ⟨Kd.R_mono (Kd.R_grown (Kd.R_bound q1) hg (fun k hk e => ?_)) (fun _ _ => trivial), pw_below_grown q2 _ q2.size hg (fun k e => by cases e; have := HSZ.out; omega)⟩
            obtain ⟨_, _, _, q, _, cells, hc⟩ := hk
            cases e
            rw [hW] at hc
            cases hc
          · rintro W' ⟨q1, q2⟩
            refine ⟨_, results_tmp2 (fn := Try.f27) rfl _ _ _, _, rfl, q1, q2⟩
    · rw [if_neg c4] at h
      cases h
  · rw [if_neg c3'] at h
    cases h
    have c3b1 : (r1 != 0) = true := bne_iff_ne.mpr c3'
    clear c3'
    go_enter Try.func27, Try.ntmps27
    go_wp2_with (first | ((with_reducible refine gate_dst (N := 1) rfl ?_); refine box_event ?hg (N := 1) ?hd (cs := #[.int .i64 p, .int .i64 o, .slice A2 ts.length c2, .slice A3 ns.length c3]) (t := 35) ?hr ?_; (case hd => rfl); (case hg => rfl); (case hr => first | (go_simp; done) | (go_simp; rfl)); intro gb hg w5 hbox hb; have n0_ := Aside0.mk (below_step HB.out hb); have BK := Aside0.mk hbox; have GE := Aside0.mk ((by rw [hg]; exact Nat.le_refl _) : w.heap.size ≤ gb); clear HB; have HB := n0_; clear n0_; clear hb hbox hg; have hcz0 := (blk_cell BK.out 0).trans (show _ = some (Value.int .i64 p) from rfl); have hcz1 := (blk_cell BK.out 1).trans (show _ = some (Value.int .i64 o) from rfl); have hcz2 := (blk_cell BK.out 2).trans (show _ = some (Value.slice A2 ts.length c2) from rfl); have hcz3 := (blk_cell BK.out 3).trans (show _ = some (Value.slice A3 ns.length c3) from rfl)) | (go_at_call 57; (with_reducible refine (office_Roll_sound.calls k p o A2 c2 ts A3 c3 ns r1 _ (Kd.C_below HR2.out HB.out) HC2.out (Kd.C_below HR3.out HB.out) HC3.out HE2.out).mono ?_); rintro e w12 ⟨rfl, hb⟩; have n0_ := Aside0.mk (below_then HB.out HB.out.size hb); have n1_ := Aside0.mk ((hb.block _ (blk_lt BK.out)).trans BK.out); clear HB BK; have HB := n0_; have BK := n1_; clear n0_ n1_ hb; have hcz0 := (blk_cell BK.out 0).trans (show _ = some (Value.int .i64 p) from rfl); have hcz1 := (blk_cell BK.out 1).trans (show _ = some (Value.int .i64 o) from rfl); have hcz2 := (blk_cell BK.out 2).trans (show _ = some (Value.slice A2 ts.length c2) from rfl); have hcz3 := (blk_cell BK.out 3).trans (show _ = some (Value.slice A3 ns.length c3) from rfl)))
    go_ret2
    exact ⟨_, rfl, Kd.R_nil _ _ _ _ _, HB.out⟩
end Go.Proofs.Ythpheknchikodaa.P
