/- Contracts of functions that the laws reach, part Xb11. Conditions: each theorem names its own. -/
import Derived.Test.YthpheknchikodaaXb10
import Derived.Test.YthpheknchikodaaXb1
/- The walk of office.Styles. Conditions: the persons of the terms, and the person asked, are less than 20. -/
namespace Go.Proofs.Ythpheknchikodaa.P
open Go.RowKit Go.Shelf Go.Proofs.YthpheknchikodaaW.PrintWords Go.Proofs.YthpheknchikodaaW.PrintLast
set_option linter.unusedVariables false
set_option linter.unusedSimpArgs false

def stylesAdd (h : Int × List Bool) (person i : Int) (out : List Int) : List Int := if h.2.getD person.toNat false = true then out ++ [i] else out
def stylesFrom (k : Nat) (p o : Int) (ts : List S59) (ns : List S109) (person day : Int) : Nat → Int → List Int → Option (List Int)
  | 0, _, _ => none
  | q + 1, i, out => if i < o then (office_Roll_holds.f k p o ts ns i day).bind fun h => if out.length ≤ 1000000 then (if h.1 = person then some ((stylesAdd h person i out).drop 1) else stylesFrom k p o ts ns person day q (wrap64 (i + 1)) (stylesAdd h person i out)) else none else some out
def office_Styles.f (k : Nat) (p o : Int) (ts : List S59) (ns : List S109) (person day : Int) : Option (List Int × Int) :=
  (office_Roll_asked.f p o ts ns person p day).bind fun e => if e = 0 then ((office_Roll_sound.f k p o ts ns).bind fun e2 => if e2 = 0 then (if 0 ≤ person ∧ person < 20 then ((stylesFrom k p o ts ns person day k 0 [-1]).bind fun l => some (l, 0)) else none) else some ([], e2)) else some ([], e)
theorem R_lit1 (B : Nat) (W : World) (x : Int) (hB : B ≤ W.heap.size) : Kd.R (Kd.int .i64) 3 (W.alloc (.cells #[.int .i64 x] 3)) B (fun _ => True) (.slice (some ⟨W.heap.size, 0, none⟩) 1 1) [x] :=
  Kd.R_of_own ⟨rfl, .inr ⟨W.heap.size, 1, #[.int .i64 x], rfl, hB, World.alloc_heap_new W _, Nat.le_refl _, by decide, rfl, rfl⟩⟩ (fun _ _ => trivial)
theorem R_tail {w : World} {B : Nat} {ok : Nat → Prop} {A : Option Addr} {c : Nat} {L r : List Int} (h : Kd.R (Kd.int .i64) 3 w B ok (.slice A L.length c) L) (hn : 1 ≤ L.length) (hr : L.drop 1 = r) :
    L.length - 1 = r.length ∧ r.length ≤ c - 1 ∧ Kd.C (Kd.int .i64) w (A.map fun x => ⟨x.block, x.off + 1, none⟩) r.length r ∧ (c = 1 → r = [] ∧ L.length = 1) := by
  obtain ⟨g, cap, e, hg, hlt⟩ := Kd.R_form h (by omega)
  cases e
  obtain ⟨h1, h2, h3⟩ := Kd.R_reads' h
  have hl : r.length = L.length - 1 := by rw [← hr, List.length_drop]
  refine ⟨hl.symm, by omega, ⟨rfl, by have := h3.2.1; omega, fun h0 => ⟨⟨g, 0 + 1, none⟩, rfl, fun j x hx => ?_⟩⟩, fun hc => ?_⟩
  · obtain ⟨ad, e, hcs⟩ := h3.2.2 (by omega)
    cases e
    have hx' : L[j + 1]? = some x := by
      rw [← hr, List.getElem?_drop, Nat.add_comm] at hx
      exact hx
    obtain ⟨cs, q1, q2, q3⟩ := hcs (j + 1) x hx'
    refine ⟨cs, q1, q2, fun i u hu => ?_⟩
    have h4 := q3 i u hu
    have ea : (⟨g, 0, none⟩ : Addr).add ((j + 1) * (Kd.int .i64).sz + i) = (⟨g, 0 + 1, none⟩ : Addr).add (j * (Kd.int .i64).sz + i) := by
      have hs : (Kd.int .i64).sz = 1 := rfl
      have e2 : ∀ m, (⟨g, 0 + 1, none⟩ : Addr).add m = ⟨g, 1 + m, none⟩ := by
        intro m
        unfold Addr.add
        split <;> simp_all
      rw [e2, add_plain, hs]
      congr 1
      omega
    rw [← ea]
    exact h4
  · have : L.length = 1 := by omega
    refine ⟨?_, this⟩
    apply List.eq_nil_of_length_eq_zero
    omega
theorem below_new14 {w13 w14 : World} {O : Obj} (hg : (w13.alloc O).grownBy w14 (some w13.heap.size)) : Below w13.heap.size w13 w14 := pw_below_grown ((Below.refl _ _).alloc (Nat.le_refl _) O) _ (by simp) hg (fun k e => by cases e; exact Nat.le_refl _)
set_option maxHeartbeats 4000000 in
set_option maxRecDepth 100000 in
theorem office_Styles.calls (k : Nat) (p o : Int) (A2 : Option Addr) (c2 : Nat) (ts : List S59) (A3 : Option Addr) (c3 : Nat) (ns : List S109) (person day : Int) (r0 : List Int) (r1 : Int) (w : World)
    (hr2 : Kd.C k59 w A2 ts.length ts) (hc2 : ts.length ≤ c2) (hr3 : Kd.C k109 w A3 ns.length ns) (hc3 : ns.length ≤ c3) (h : office_Styles.f k p o ts ns person day = some (r0, r1)) :
    Calls Try.prog 24 #[.agg #[.int .i64 p, .int .i64 o, .slice A2 ts.length c2, .slice A3 ns.length c3], .int .i64 person, .int .i64 day] w fun e w' => ∃ (A : Option Addr) (c : Nat), e = .returned (.tuple #[.slice A r0.length c, .int .i64 r1]) ∧ r0.length ≤ c ∧ Kd.C (Kd.int .i64) w' A r0.length r0 ∧ Below w.heap.size w w' := by
  have hu35 := Try.underlying35
  have hu114 := Try.underlying114
  have hu28 := Try.underlying28
  have hu112 := Try.underlying112
  have HR2 := Aside0.mk hr2
  have HR3 := Aside0.mk hr3
  have HC2 := Aside0.mk hc2
  have HC3 := Aside0.mk hc3
  clear hr2 hr3 hc2 hc3
  obtain ⟨e1, hE1, h⟩ := Option.bind_eq_some_iff.mp h
  have HE1 := Aside0.mk hE1
  clear hE1
  have HB := Aside0.mk (Below.refl w.heap.size w)
  by_cases c1 : e1 = 0
  · rw [if_pos c1] at h
    subst c1
    obtain ⟨e2, hE2, h⟩ := Option.bind_eq_some_iff.mp h
    have HE2 := Aside0.mk hE2
    clear hE2
    by_cases c3' : e2 = 0
    · rw [if_pos c3'] at h
      subst c3'
      by_cases c4 : 0 ≤ person ∧ person < 20
      · rw [if_pos c4] at h
        obtain ⟨l0, hl0, h⟩ := Option.bind_eq_some_iff.mp h
        cases h
        have HP := Aside0.mk c4
        have hp0 := eq_true c4.1
        have hp1 := eq_true c4.2
        clear c4
        have HS0 := Aside0.mk hl0
        clear hl0
        go_enter Try.func24, Try.ntmps24
        go_wp2_with (first | ((with_reducible refine gate_dst (N := 3) rfl ?_); refine box_event ?hg (N := 3) ?hd (cs := #[.int .i64 p, .int .i64 o, .slice A2 ts.length c2, .slice A3 ns.length c3]) (t := 35) ?hr ?_; (case hd => rfl); (case hg => rfl); (case hr => first | (go_simp; done) | (go_simp; rfl)); intro gb hg w5 hbox hb; have n0_ := Aside0.mk (below_step HB.out hb); have BK := Aside0.mk hbox; have GE := Aside0.mk ((by rw [hg]; exact Nat.le_refl _) : w.heap.size ≤ gb); clear HB; have HB := n0_; clear n0_; clear hb hbox hg; have hcz0 := (blk_cell BK.out 0).trans (show _ = some (Value.int .i64 p) from rfl); have hcz1 := (blk_cell BK.out 1).trans (show _ = some (Value.int .i64 o) from rfl); have hcz2 := (blk_cell BK.out 2).trans (show _ = some (Value.slice A2 ts.length c2) from rfl); have hcz3 := (blk_cell BK.out 3).trans (show _ = some (Value.slice A3 ns.length c3) from rfl)) | (go_at_call 56; (with_reducible refine (office_Roll_asked.calls p o A2 c2 ts A3 c3 ns person p day 0 _ (Kd.C_below HR2.out HB.out) HC2.out (Kd.C_below HR3.out HB.out) HC3.out HE1.out).mono ?_); rintro e w11 ⟨rfl, hb⟩; have n0_ := Aside0.mk (below_then HB.out HB.out.size hb); have n1_ := Aside0.mk ((hb.block _ (blk_lt BK.out)).trans BK.out); clear HB BK; have HB := n0_; have BK := n1_; clear n0_ n1_ hb; have hcz0 := (blk_cell BK.out 0).trans (show _ = some (Value.int .i64 p) from rfl); have hcz1 := (blk_cell BK.out 1).trans (show _ = some (Value.int .i64 o) from rfl); have hcz2 := (blk_cell BK.out 2).trans (show _ = some (Value.slice A2 ts.length c2) from rfl); have hcz3 := (blk_cell BK.out 3).trans (show _ = some (Value.slice A3 ns.length c3) from rfl)) | (go_at_call 57; (with_reducible refine (office_Roll_sound.calls k p o A2 c2 ts A3 c3 ns 0 _ (Kd.C_below HR2.out HB.out) HC2.out (Kd.C_below HR3.out HB.out) HC3.out HE2.out).mono ?_); rintro e w12 ⟨rfl, hb⟩; have n0_ := Aside0.mk (below_then HB.out HB.out.size hb); have n1_ := Aside0.mk ((hb.block _ (blk_lt BK.out)).trans BK.out); clear HB BK; have HB := n0_; have BK := n1_; clear n0_ n1_ hb; have hcz0 := (blk_cell BK.out 0).trans (show _ = some (Value.int .i64 p) from rfl); have hcz1 := (blk_cell BK.out 1).trans (show _ = some (Value.int .i64 o) from rfl); have hcz2 := (blk_cell BK.out 2).trans (show _ = some (Value.slice A2 ts.length c2) from rfl); have hcz3 := (blk_cell BK.out 3).trans (show _ = some (Value.slice A3 ns.length c3) from rfl); have hczA := fun O => (blk_cell (blk_alloc BK.out O) 1).trans (show _ = some (Value.int .i64 o) from rfl)))
        have hB2 := Aside0.mk (below_alloc HB.out (.cells #[.int .i64 (-1)] 3))
        have hK2 := Aside0.mk (blk_alloc BK.out (.cells #[.int .i64 (-1)] 3))
        have hL2 := Aside0.mk (R_lit1 w.heap.size w12 (-1) HB.out.size)
        clear hczA hcz0 hcz1 hcz2 hcz3 HB BK
        go_loopg [10, 30] k (fun kq v10 v30 w' => ∃ (L : List Int) (i : Int), v30 = .int .i64 i ∧ Aside0 (1 ≤ L.length ∧ stylesFrom k p o ts ns person day kq i L = some r0) ∧ Aside0 (Kd.R (Kd.int .i64) 3 w' w.heap.size (fun _ => True) v10 L) ∧ Aside0 (w'.heap[gb]? = some (.cells #[.int .i64 p, .int .i64 o, .slice A2 ts.length c2, .slice A3 ns.length c3] 35 (0, 0))) ∧ Aside0 (Below w.heap.size w w'))
        case atStart => exact ⟨[-1], 0, rfl, ⟨by simp, HS0.out⟩, hL2, hK2, hB2⟩
        case round =>
          clear hB2 hK2 hL2
          obtain ⟨L, i, rfl, HI, HL, BK, HB⟩ := hrel
          obtain ⟨q, rfl⟩ : ∃ q, gk = q + 1 := by
            cases gk with
            | zero => exact absurd HI.out.2 (by simp [stylesFrom])
            | succ q => exact ⟨q, rfl⟩
          have HX := HI.out.2
          rw [stylesFrom] at HX
          by_cases hlt : i < o
          · rw [if_pos hlt] at HX
            obtain ⟨hh, hE3, HX⟩ := Option.bind_eq_some_iff.mp HX
            have HE3 := Aside0.mk hE3
            by_cases hL : L.length ≤ 1000000
            · rw [if_pos hL] at HX
              have LM := Aside0.mk hL
              have hlen := office_Roll_holds.len hE3
              clear hE3 hL
              have c0 : decide (i < o) = true := decide_eq_true hlt
              clear hlt
              obtain ⟨bi, hbi⟩ : ∃ bi, bi = hh.2.getD person.toNat false := ⟨_, rfl⟩
              have HBI := Aside0.mk (show hh.2[person.toNat]? = some bi by
                rw [hbi, List.getD_eq_getElem?_getD]
                have := HP.out
                rw [List.getElem?_eq_getElem (by omega)]
                rfl)
              have HA := Aside0.mk (show stylesAdd hh person i L = if bi = true then L ++ [i] else L by rw [hbi]; rfl)
              have HX' := Aside0.mk HX
              clear hbi hlen HX
              have hcz0 := (blk_cell BK.out 0).trans (show _ = some (Value.int .i64 p) from rfl); have hcz1 := (blk_cell BK.out 1).trans (show _ = some (Value.int .i64 o) from rfl); have hcz2 := (blk_cell BK.out 2).trans (show _ = some (Value.slice A2 ts.length c2) from rfl); have hcz3 := (blk_cell BK.out 3).trans (show _ = some (Value.slice A3 ns.length c3) from rfl)
              obtain ⟨Ao, co, eo⟩ := Kd.R_slice HL.out
              subst eo
              cases bi
              · by_cases hp : hh.1 = person
                · have c5 : (hh.1 == person) = true := beq_iff_eq.mpr hp
                  have HO := Aside0.mk (show stylesAdd hh person i L = L by rw [HA.out]; simp)
                  have HQ := Aside0.mk (show (L).drop 1 = r0 by have h := HX'.out; rw [if_pos hp, HO.out] at h; injection h)
                  clear hp
                  have HLN := Aside0.mk HI.out.1
                  have hln : ((1 : Int) ≤ (L.length : Int)) = True := eq_true (by have := HI.out.1; omega)
                  go_wp2_with (first | (go_at_call 58; (with_reducible refine (office_Roll_holds.calls k p o A2 c2 ts A3 c3 ns i day hh _ (Kd.C_below HR2.out HB.out) HC2.out (Kd.C_below HR3.out HB.out) HC3.out HE3.out).mono ?_); rintro e w13 ⟨rfl, hb⟩; have n9_ := Aside0.mk (Kd.R_below HL.out hb); clear HL; have HL := n9_; clear n9_; have n0_ := Aside0.mk (below_then HB.out HB.out.size hb); have n1_ := Aside0.mk ((hb.block _ (blk_lt BK.out)).trans BK.out); clear HB BK; have HB := n0_; have BK := n1_; clear n0_ n1_ hb; have hcz0 := (blk_cell BK.out 0).trans (show _ = some (Value.int .i64 p) from rfl); have hcz1 := (blk_cell BK.out 1).trans (show _ = some (Value.int .i64 o) from rfl); have hcz2 := (blk_cell BK.out 2).trans (show _ = some (Value.slice A2 ts.length c2) from rfl); have hcz3 := (blk_cell BK.out 3).trans (show _ = some (Value.slice A3 ns.length c3) from rfl); generalize hvs : heldCells hh = vs; have HVS := Aside0.mk hvs; clear hvs; have HV1 := Aside0.mk (show vs.size = 21 by rw [← HVS.out]; exact heldCells_sz (office_Roll_holds.len HE3.out)); have HV2 := Aside0.mk (show ∀ v ∈ vs.toList, v.oneCell' = true by rw [← HVS.out]; exact heldCells_one hh)) | ((with_reducible refine gate_op (x := .store 114 (.tmp 12) (.tmp 36)) rfl ?_); go_loud (refine store_whole _ rfl 114 (.tmp 12) (.tmp 36) rfl w13.heap.size 21 _ vs rfl rfl Try.sizeOf114 (World.alloc_heap_new w13 _) rfl HV1.out HV2.out ?_); intro w14 hbx hgx hzx; have n0_ := Aside0.mk (pw_below_grown (below_alloc HB.out _) _ (by have := HB.out.size; simp; omega) hgx (fun k e => by cases e; exact HB.out.size)); have n1_ := Aside0.mk (blk_grown (blk_alloc BK.out _) hgx (by have := blk_lt BK.out; intro e; cases e; omega)); have n2_ := Aside0.mk (Kd.R_below HL.out (below_new14 hgx)); have BX := Aside0.mk hbx; clear HB BK HL; have HB := n0_; have BK := n1_; have HL := n2_; clear n0_ n1_ n2_ hbx hgx hzx; have hcz0 := (blk_cell BK.out 0).trans (show _ = some (Value.int .i64 p) from rfl); have hcz1 := (blk_cell BK.out 1).trans (show _ = some (Value.int .i64 o) from rfl); have hcz2 := (blk_cell BK.out 2).trans (show _ = some (Value.slice A2 ts.length c2) from rfl); have hcz3 := (blk_cell BK.out 3).trans (show _ = some (Value.slice A3 ns.length c3) from rfl); have hcx0 := (blk_cell BX.out 0).trans (show _ = some (Value.int .i64 hh.1) by rw [← HVS.out]; simp [heldCells]); have hcx1 := (blk_cell BX.out (1 + person.toNat)).trans (show _ = some (Value.bool false) by rw [← HVS.out, Nat.add_comm 1]; simp [heldCells, HBI.out])))
                  all_goals (go_ret2)
                  all_goals (obtain ⟨q1, q2, q3, q4⟩ := R_tail HL.out HLN.out HQ.out)
                  · have hco : co = 1 := by assumption
                    obtain ⟨q5, q6⟩ := q4 hco
                    subst q5
                    exact ⟨_, _, by rw [← q1]; rfl, Nat.zero_le _, ⟨rfl, by simp, fun h => absurd h (Nat.lt_irrefl 0)⟩, HB.out⟩
                  · exact ⟨_, _, by rw [q1]; rfl, q2, q3, HB.out⟩
                · have c5 : (hh.1 == person) = false := beq_eq_false_iff_ne.mpr hp
                  have HO := Aside0.mk (show stylesAdd hh person i L = L by rw [HA.out]; simp)
                  have HQ := Aside0.mk (show stylesFrom k p o ts ns person day q (wrap64 (i + 1)) (L) = some r0 by have h := HX'.out; rw [if_neg hp, HO.out] at h; exact h)
                  clear hp
                  have HLN := Aside0.mk HI.out.1
                  have hln : ((1 : Int) ≤ (L.length : Int)) = True := eq_true (by have := HI.out.1; omega)
                  go_wp2_with (first | (go_at_call 58; (with_reducible refine (office_Roll_holds.calls k p o A2 c2 ts A3 c3 ns i day hh _ (Kd.C_below HR2.out HB.out) HC2.out (Kd.C_below HR3.out HB.out) HC3.out HE3.out).mono ?_); rintro e w13 ⟨rfl, hb⟩; have n9_ := Aside0.mk (Kd.R_below HL.out hb); clear HL; have HL := n9_; clear n9_; have n0_ := Aside0.mk (below_then HB.out HB.out.size hb); have n1_ := Aside0.mk ((hb.block _ (blk_lt BK.out)).trans BK.out); clear HB BK; have HB := n0_; have BK := n1_; clear n0_ n1_ hb; have hcz0 := (blk_cell BK.out 0).trans (show _ = some (Value.int .i64 p) from rfl); have hcz1 := (blk_cell BK.out 1).trans (show _ = some (Value.int .i64 o) from rfl); have hcz2 := (blk_cell BK.out 2).trans (show _ = some (Value.slice A2 ts.length c2) from rfl); have hcz3 := (blk_cell BK.out 3).trans (show _ = some (Value.slice A3 ns.length c3) from rfl); generalize hvs : heldCells hh = vs; have HVS := Aside0.mk hvs; clear hvs; have HV1 := Aside0.mk (show vs.size = 21 by rw [← HVS.out]; exact heldCells_sz (office_Roll_holds.len HE3.out)); have HV2 := Aside0.mk (show ∀ v ∈ vs.toList, v.oneCell' = true by rw [← HVS.out]; exact heldCells_one hh)) | ((with_reducible refine gate_op (x := .store 114 (.tmp 12) (.tmp 36)) rfl ?_); go_loud (refine store_whole _ rfl 114 (.tmp 12) (.tmp 36) rfl w13.heap.size 21 _ vs rfl rfl Try.sizeOf114 (World.alloc_heap_new w13 _) rfl HV1.out HV2.out ?_); intro w14 hbx hgx hzx; have n0_ := Aside0.mk (pw_below_grown (below_alloc HB.out _) _ (by have := HB.out.size; simp; omega) hgx (fun k e => by cases e; exact HB.out.size)); have n1_ := Aside0.mk (blk_grown (blk_alloc BK.out _) hgx (by have := blk_lt BK.out; intro e; cases e; omega)); have n2_ := Aside0.mk (Kd.R_below HL.out (below_new14 hgx)); have BX := Aside0.mk hbx; clear HB BK HL; have HB := n0_; have BK := n1_; have HL := n2_; clear n0_ n1_ n2_ hbx hgx hzx; have hcz0 := (blk_cell BK.out 0).trans (show _ = some (Value.int .i64 p) from rfl); have hcz1 := (blk_cell BK.out 1).trans (show _ = some (Value.int .i64 o) from rfl); have hcz2 := (blk_cell BK.out 2).trans (show _ = some (Value.slice A2 ts.length c2) from rfl); have hcz3 := (blk_cell BK.out 3).trans (show _ = some (Value.slice A3 ns.length c3) from rfl); have hcx0 := (blk_cell BX.out 0).trans (show _ = some (Value.int .i64 hh.1) by rw [← HVS.out]; simp [heldCells]); have hcx1 := (blk_cell BX.out (1 + person.toNat)).trans (show _ = some (Value.bool false) by rw [← HVS.out, Nat.add_comm 1]; simp [heldCells, HBI.out])))
                  go_roundg q
                  case measure => omega
                  case rel => exact ⟨L, wrap64 (i + 1), rfl, ⟨by have := HI.out.1; simp; try omega, HQ.out⟩, HL, BK, HB⟩
              · by_cases hp : hh.1 = person
                · have c5 : (hh.1 == person) = true := beq_iff_eq.mpr hp
                  obtain ⟨L2, hL2⟩ : ∃ L2, L2 = L ++ [i] := ⟨_, rfl⟩
                  have NL2 := Aside0.mk hL2
                  have hln2 : ((1 : Int) ≤ (L2.length : Int)) = True := eq_true (by rw [hL2]; simp; omega)
                  have HLN2 := Aside0.mk (show 1 ≤ L2.length by rw [hL2]; simp)
                  have HO := Aside0.mk (show stylesAdd hh person i L = L ++ [i] by rw [HA.out]; simp)
                  have HQ := Aside0.mk (show (L ++ [i]).drop 1 = r0 by have h := HX'.out; rw [if_pos hp, HO.out] at h; injection h)
                  rw [← hL2] at HQ
                  clear hp hL2
                  have HLN := Aside0.mk HI.out.1
                  have hln : ((1 : Int) ≤ (L.length : Int)) = True := eq_true (by have := HI.out.1; omega)
                  go_wp2_with (first | (go_at_call 58; (with_reducible refine (office_Roll_holds.calls k p o A2 c2 ts A3 c3 ns i day hh _ (Kd.C_below HR2.out HB.out) HC2.out (Kd.C_below HR3.out HB.out) HC3.out HE3.out).mono ?_); rintro e w13 ⟨rfl, hb⟩; have n9_ := Aside0.mk (Kd.R_below HL.out hb); clear HL; have HL := n9_; clear n9_; have n0_ := Aside0.mk (below_then HB.out HB.out.size hb); have n1_ := Aside0.mk ((hb.block _ (blk_lt BK.out)).trans BK.out); clear HB BK; have HB := n0_; have BK := n1_; clear n0_ n1_ hb; have hcz0 := (blk_cell BK.out 0).trans (show _ = some (Value.int .i64 p) from rfl); have hcz1 := (blk_cell BK.out 1).trans (show _ = some (Value.int .i64 o) from rfl); have hcz2 := (blk_cell BK.out 2).trans (show _ = some (Value.slice A2 ts.length c2) from rfl); have hcz3 := (blk_cell BK.out 3).trans (show _ = some (Value.slice A3 ns.length c3) from rfl); generalize hvs : heldCells hh = vs; have HVS := Aside0.mk hvs; clear hvs; have HV1 := Aside0.mk (show vs.size = 21 by rw [← HVS.out]; exact heldCells_sz (office_Roll_holds.len HE3.out)); have HV2 := Aside0.mk (show ∀ v ∈ vs.toList, v.oneCell' = true by rw [← HVS.out]; exact heldCells_one hh)) | ((with_reducible refine gate_op (x := .store 114 (.tmp 12) (.tmp 36)) rfl ?_); go_loud (refine store_whole _ rfl 114 (.tmp 12) (.tmp 36) rfl w13.heap.size 21 _ vs rfl rfl Try.sizeOf114 (World.alloc_heap_new w13 _) rfl HV1.out HV2.out ?_); intro w14 hbx hgx hzx; have n0_ := Aside0.mk (pw_below_grown (below_alloc HB.out _) _ (by have := HB.out.size; simp; omega) hgx (fun k e => by cases e; exact HB.out.size)); have n1_ := Aside0.mk (blk_grown (blk_alloc BK.out _) hgx (by have := blk_lt BK.out; intro e; cases e; omega)); have n2_ := Aside0.mk (Kd.R_below HL.out (below_new14 hgx)); have BX := Aside0.mk hbx; clear HB BK HL; have HB := n0_; have BK := n1_; have HL := n2_; clear n0_ n1_ n2_ hbx hgx hzx; have hcz0 := (blk_cell BK.out 0).trans (show _ = some (Value.int .i64 p) from rfl); have hcz1 := (blk_cell BK.out 1).trans (show _ = some (Value.int .i64 o) from rfl); have hcz2 := (blk_cell BK.out 2).trans (show _ = some (Value.slice A2 ts.length c2) from rfl); have hcz3 := (blk_cell BK.out 3).trans (show _ = some (Value.slice A3 ns.length c3) from rfl); have hcx0 := (blk_cell BX.out 0).trans (show _ = some (Value.int .i64 hh.1) by rw [← HVS.out]; simp [heldCells]); have hcx1 := (blk_cell BX.out (1 + person.toNat)).trans (show _ = some (Value.bool true) by rw [← HVS.out, Nat.add_comm 1]; simp [heldCells, HBI.out])) | ((with_reducible refine gate_builtin (b := .append) (xs := #[.tmp 41, .tmp 43]) rfl ?_); at_builtin; refine Kd.R_append (Kd.int .i64) (w0 := w) w.heap.size rfl (.tmp 41) (.tmp 43) 28 3 (.int .i64 0) 8 rfl Try.underlying28 info3 rfl (by decide) (by omega) (.slice Ao L.length co) L i [.int .i64 i] (fun _ => True) (fun _ => False) rfl rfl ?aP (fun _ hk => hk.elim) ?aF ?aO ?aB ?aS ?aL ?_; (case aP => exact rfl); (case aB => exact (by repeat (first | (with_reducible first | exact HB.out | apply below_alloc) | exact HB.out))); (case aF => exact (fun _ _ => trivial)); (case aO => exact (by (with_reducible repeat (first | apply Kd.R_alloc)); exact HL.out)); (case aS => exact (below_size (by repeat (first | (with_reducible first | exact HB.out | apply below_alloc) | exact HB.out)))); (case aL => have := LM.out; omega); intro v113 w39 ho hb hg hat; rw [← NL2.out] at ho; obtain ⟨Ao2, co2, eo2⟩ := Kd.R_slice ho; subst eo2; have n2_ := Aside0.mk ho; have n3_ := Aside0.mk (blk_grown (by (with_reducible repeat (refine blk_alloc ?_ _)); exact BX.out) hg (Kd.R_ne HL.out BX.out (by decide))); have n4_ := Aside0.mk (blk_grown (by (with_reducible repeat (refine blk_alloc ?_ _)); exact BK.out) hg (Kd.R_ne HL.out BK.out (by decide))); have n5_ := Aside0.mk hb; clear HL BX BK HB; have HL := n2_; have BX := n3_; have BK := n4_; have HB := n5_; clear n2_ n3_ n4_ n5_ ho hb hg hat; have hcz0 := (blk_cell BK.out 0).trans (show _ = some (Value.int .i64 p) from rfl); have hcz1 := (blk_cell BK.out 1).trans (show _ = some (Value.int .i64 o) from rfl); have hcz2 := (blk_cell BK.out 2).trans (show _ = some (Value.slice A2 ts.length c2) from rfl); have hcz3 := (blk_cell BK.out 3).trans (show _ = some (Value.slice A3 ns.length c3) from rfl); have hcx0 := (blk_cell BX.out 0).trans (show _ = some (Value.int .i64 hh.1) by rw [← HVS.out]; simp [heldCells])))
                  all_goals (go_ret2)
                  all_goals (obtain ⟨q1, q2, q3, q4⟩ := R_tail HL.out HLN2.out HQ.out)
                  · have hco : co2 = 1 := by assumption
                    obtain ⟨q5, q6⟩ := q4 hco
                    subst q5
                    exact ⟨_, _, by rw [← q1]; rfl, Nat.zero_le _, ⟨rfl, by simp, fun h => absurd h (Nat.lt_irrefl 0)⟩, HB.out⟩
                  · exact ⟨_, _, by rw [q1]; rfl, q2, q3, HB.out⟩
                · have c5 : (hh.1 == person) = false := beq_eq_false_iff_ne.mpr hp
                  obtain ⟨L2, hL2⟩ : ∃ L2, L2 = L ++ [i] := ⟨_, rfl⟩
                  have NL2 := Aside0.mk hL2
                  have hln2 : ((1 : Int) ≤ (L2.length : Int)) = True := eq_true (by rw [hL2]; simp; omega)
                  have HLN2 := Aside0.mk (show 1 ≤ L2.length by rw [hL2]; simp)
                  have HO := Aside0.mk (show stylesAdd hh person i L = L ++ [i] by rw [HA.out]; simp)
                  have HQ := Aside0.mk (show stylesFrom k p o ts ns person day q (wrap64 (i + 1)) (L ++ [i]) = some r0 by have h := HX'.out; rw [if_neg hp, HO.out] at h; exact h)
                  rw [← hL2] at HQ
                  clear hp hL2
                  have HLN := Aside0.mk HI.out.1
                  have hln : ((1 : Int) ≤ (L.length : Int)) = True := eq_true (by have := HI.out.1; omega)
                  go_wp2_with (first | (go_at_call 58; (with_reducible refine (office_Roll_holds.calls k p o A2 c2 ts A3 c3 ns i day hh _ (Kd.C_below HR2.out HB.out) HC2.out (Kd.C_below HR3.out HB.out) HC3.out HE3.out).mono ?_); rintro e w13 ⟨rfl, hb⟩; have n9_ := Aside0.mk (Kd.R_below HL.out hb); clear HL; have HL := n9_; clear n9_; have n0_ := Aside0.mk (below_then HB.out HB.out.size hb); have n1_ := Aside0.mk ((hb.block _ (blk_lt BK.out)).trans BK.out); clear HB BK; have HB := n0_; have BK := n1_; clear n0_ n1_ hb; have hcz0 := (blk_cell BK.out 0).trans (show _ = some (Value.int .i64 p) from rfl); have hcz1 := (blk_cell BK.out 1).trans (show _ = some (Value.int .i64 o) from rfl); have hcz2 := (blk_cell BK.out 2).trans (show _ = some (Value.slice A2 ts.length c2) from rfl); have hcz3 := (blk_cell BK.out 3).trans (show _ = some (Value.slice A3 ns.length c3) from rfl); generalize hvs : heldCells hh = vs; have HVS := Aside0.mk hvs; clear hvs; have HV1 := Aside0.mk (show vs.size = 21 by rw [← HVS.out]; exact heldCells_sz (office_Roll_holds.len HE3.out)); have HV2 := Aside0.mk (show ∀ v ∈ vs.toList, v.oneCell' = true by rw [← HVS.out]; exact heldCells_one hh)) | ((with_reducible refine gate_op (x := .store 114 (.tmp 12) (.tmp 36)) rfl ?_); go_loud (refine store_whole _ rfl 114 (.tmp 12) (.tmp 36) rfl w13.heap.size 21 _ vs rfl rfl Try.sizeOf114 (World.alloc_heap_new w13 _) rfl HV1.out HV2.out ?_); intro w14 hbx hgx hzx; have n0_ := Aside0.mk (pw_below_grown (below_alloc HB.out _) _ (by have := HB.out.size; simp; omega) hgx (fun k e => by cases e; exact HB.out.size)); have n1_ := Aside0.mk (blk_grown (blk_alloc BK.out _) hgx (by have := blk_lt BK.out; intro e; cases e; omega)); have n2_ := Aside0.mk (Kd.R_below HL.out (below_new14 hgx)); have BX := Aside0.mk hbx; clear HB BK HL; have HB := n0_; have BK := n1_; have HL := n2_; clear n0_ n1_ n2_ hbx hgx hzx; have hcz0 := (blk_cell BK.out 0).trans (show _ = some (Value.int .i64 p) from rfl); have hcz1 := (blk_cell BK.out 1).trans (show _ = some (Value.int .i64 o) from rfl); have hcz2 := (blk_cell BK.out 2).trans (show _ = some (Value.slice A2 ts.length c2) from rfl); have hcz3 := (blk_cell BK.out 3).trans (show _ = some (Value.slice A3 ns.length c3) from rfl); have hcx0 := (blk_cell BX.out 0).trans (show _ = some (Value.int .i64 hh.1) by rw [← HVS.out]; simp [heldCells]); have hcx1 := (blk_cell BX.out (1 + person.toNat)).trans (show _ = some (Value.bool true) by rw [← HVS.out, Nat.add_comm 1]; simp [heldCells, HBI.out])) | ((with_reducible refine gate_builtin (b := .append) (xs := #[.tmp 41, .tmp 43]) rfl ?_); at_builtin; refine Kd.R_append (Kd.int .i64) (w0 := w) w.heap.size rfl (.tmp 41) (.tmp 43) 28 3 (.int .i64 0) 8 rfl Try.underlying28 info3 rfl (by decide) (by omega) (.slice Ao L.length co) L i [.int .i64 i] (fun _ => True) (fun _ => False) rfl rfl ?aP (fun _ hk => hk.elim) ?aF ?aO ?aB ?aS ?aL ?_; (case aP => exact rfl); (case aB => exact (by repeat (first | (with_reducible first | exact HB.out | apply below_alloc) | exact HB.out))); (case aF => exact (fun _ _ => trivial)); (case aO => exact (by (with_reducible repeat (first | apply Kd.R_alloc)); exact HL.out)); (case aS => exact (below_size (by repeat (first | (with_reducible first | exact HB.out | apply below_alloc) | exact HB.out)))); (case aL => have := LM.out; omega); intro v113 w39 ho hb hg hat; rw [← NL2.out] at ho; obtain ⟨Ao2, co2, eo2⟩ := Kd.R_slice ho; subst eo2; have n2_ := Aside0.mk ho; have n3_ := Aside0.mk (blk_grown (by (with_reducible repeat (refine blk_alloc ?_ _)); exact BX.out) hg (Kd.R_ne HL.out BX.out (by decide))); have n4_ := Aside0.mk (blk_grown (by (with_reducible repeat (refine blk_alloc ?_ _)); exact BK.out) hg (Kd.R_ne HL.out BK.out (by decide))); have n5_ := Aside0.mk hb; clear HL BX BK HB; have HL := n2_; have BX := n3_; have BK := n4_; have HB := n5_; clear n2_ n3_ n4_ n5_ ho hb hg hat; have hcz0 := (blk_cell BK.out 0).trans (show _ = some (Value.int .i64 p) from rfl); have hcz1 := (blk_cell BK.out 1).trans (show _ = some (Value.int .i64 o) from rfl); have hcz2 := (blk_cell BK.out 2).trans (show _ = some (Value.slice A2 ts.length c2) from rfl); have hcz3 := (blk_cell BK.out 3).trans (show _ = some (Value.slice A3 ns.length c3) from rfl); have hcx0 := (blk_cell BX.out 0).trans (show _ = some (Value.int .i64 hh.1) by rw [← HVS.out]; simp [heldCells])))
                  go_roundg q
                  case measure => omega
                  case rel => exact ⟨L2, wrap64 (i + 1), rfl, ⟨HLN2.out, HQ.out⟩, HL, BK, HB⟩
            · rw [if_neg hL] at HX
              cases HX
          · rw [if_neg hlt] at HX
            cases HX
            have c0 : decide (i < o) = false := decide_eq_false hlt
            clear hlt
            obtain ⟨Ao, co, eo⟩ := Kd.R_slice HL.out
            subst eo
            go_wp2
            go_ret2
            exact ⟨_, _, rfl, (Kd.R_reads' HL.out).2.1, (Kd.R_reads' HL.out).2.2, HB.out⟩
      · rw [if_neg c4] at h
        cases h
    · rw [if_neg c3'] at h
      cases h
      have c3b1 : (r1 != 0) = true := bne_iff_ne.mpr c3'
      clear c3'
      go_enter Try.func24, Try.ntmps24
      go_wp2_with (first | ((with_reducible refine gate_dst (N := 3) rfl ?_); refine box_event ?hg (N := 3) ?hd (cs := #[.int .i64 p, .int .i64 o, .slice A2 ts.length c2, .slice A3 ns.length c3]) (t := 35) ?hr ?_; (case hd => rfl); (case hg => rfl); (case hr => first | (go_simp; done) | (go_simp; rfl)); intro gb hg w5 hbox hb; have n0_ := Aside0.mk (below_step HB.out hb); have BK := Aside0.mk hbox; have GE := Aside0.mk ((by rw [hg]; exact Nat.le_refl _) : w.heap.size ≤ gb); clear HB; have HB := n0_; clear n0_; clear hb hbox hg; have hcz0 := (blk_cell BK.out 0).trans (show _ = some (Value.int .i64 p) from rfl); have hcz1 := (blk_cell BK.out 1).trans (show _ = some (Value.int .i64 o) from rfl); have hcz2 := (blk_cell BK.out 2).trans (show _ = some (Value.slice A2 ts.length c2) from rfl); have hcz3 := (blk_cell BK.out 3).trans (show _ = some (Value.slice A3 ns.length c3) from rfl)) | (go_at_call 56; (with_reducible refine (office_Roll_asked.calls p o A2 c2 ts A3 c3 ns person p day 0 _ (Kd.C_below HR2.out HB.out) HC2.out (Kd.C_below HR3.out HB.out) HC3.out HE1.out).mono ?_); rintro e w11 ⟨rfl, hb⟩; have n0_ := Aside0.mk (below_then HB.out HB.out.size hb); have n1_ := Aside0.mk ((hb.block _ (blk_lt BK.out)).trans BK.out); clear HB BK; have HB := n0_; have BK := n1_; clear n0_ n1_ hb; have hcz0 := (blk_cell BK.out 0).trans (show _ = some (Value.int .i64 p) from rfl); have hcz1 := (blk_cell BK.out 1).trans (show _ = some (Value.int .i64 o) from rfl); have hcz2 := (blk_cell BK.out 2).trans (show _ = some (Value.slice A2 ts.length c2) from rfl); have hcz3 := (blk_cell BK.out 3).trans (show _ = some (Value.slice A3 ns.length c3) from rfl)) | (go_at_call 57; (with_reducible refine (office_Roll_sound.calls k p o A2 c2 ts A3 c3 ns r1 _ (Kd.C_below HR2.out HB.out) HC2.out (Kd.C_below HR3.out HB.out) HC3.out HE2.out).mono ?_); rintro e w12 ⟨rfl, hb⟩; have n0_ := Aside0.mk (below_then HB.out HB.out.size hb); have n1_ := Aside0.mk ((hb.block _ (blk_lt BK.out)).trans BK.out); clear HB BK; have HB := n0_; have BK := n1_; clear n0_ n1_ hb; have hcz0 := (blk_cell BK.out 0).trans (show _ = some (Value.int .i64 p) from rfl); have hcz1 := (blk_cell BK.out 1).trans (show _ = some (Value.int .i64 o) from rfl); have hcz2 := (blk_cell BK.out 2).trans (show _ = some (Value.slice A2 ts.length c2) from rfl); have hcz3 := (blk_cell BK.out 3).trans (show _ = some (Value.slice A3 ns.length c3) from rfl)))
      go_ret2
      exact ⟨_, _, rfl, by simp, Kd.C_nil _ _, HB.out⟩
  · rw [if_neg c1] at h
    cases h
    have c3b1 : (r1 != 0) = true := bne_iff_ne.mpr c1
    clear c1
    go_enter Try.func24, Try.ntmps24
    go_wp2_with (first | ((with_reducible refine gate_dst (N := 3) rfl ?_); refine box_event ?hg (N := 3) ?hd (cs := #[.int .i64 p, .int .i64 o, .slice A2 ts.length c2, .slice A3 ns.length c3]) (t := 35) ?hr ?_; (case hd => rfl); (case hg => rfl); (case hr => first | (go_simp; done) | (go_simp; rfl)); intro gb hg w5 hbox hb; have n0_ := Aside0.mk (below_step HB.out hb); have BK := Aside0.mk hbox; have GE := Aside0.mk ((by rw [hg]; exact Nat.le_refl _) : w.heap.size ≤ gb); clear HB; have HB := n0_; clear n0_; clear hb hbox hg; have hcz0 := (blk_cell BK.out 0).trans (show _ = some (Value.int .i64 p) from rfl); have hcz1 := (blk_cell BK.out 1).trans (show _ = some (Value.int .i64 o) from rfl); have hcz2 := (blk_cell BK.out 2).trans (show _ = some (Value.slice A2 ts.length c2) from rfl); have hcz3 := (blk_cell BK.out 3).trans (show _ = some (Value.slice A3 ns.length c3) from rfl)) | (go_at_call 56; (with_reducible refine (office_Roll_asked.calls p o A2 c2 ts A3 c3 ns person p day r1 _ (Kd.C_below HR2.out HB.out) HC2.out (Kd.C_below HR3.out HB.out) HC3.out HE1.out).mono ?_); rintro e w11 ⟨rfl, hb⟩; have n0_ := Aside0.mk (below_then HB.out HB.out.size hb); have n1_ := Aside0.mk ((hb.block _ (blk_lt BK.out)).trans BK.out); clear HB BK; have HB := n0_; have BK := n1_; clear n0_ n1_ hb; have hcz0 := (blk_cell BK.out 0).trans (show _ = some (Value.int .i64 p) from rfl); have hcz1 := (blk_cell BK.out 1).trans (show _ = some (Value.int .i64 o) from rfl); have hcz2 := (blk_cell BK.out 2).trans (show _ = some (Value.slice A2 ts.length c2) from rfl); have hcz3 := (blk_cell BK.out 3).trans (show _ = some (Value.slice A3 ns.length c3) from rfl)))
    go_ret2
    exact ⟨_, _, rfl, by simp, Kd.C_nil _ _, HB.out⟩
end Go.Proofs.Ythpheknchikodaa.P

-- Written for this claim by a program of this session (over the kit's print). Lean checks it.
namespace Go.Proofs.Ythpheknchikodaa.P
open Go.RowKit Go.Proofs.YthpheknchikodaaW.PrintWords Go.Proofs.YthpheknchikodaaW.PrintLast
set_option linter.unusedVariables false
set_option linter.unusedSimpArgs false

/-! ### palantypelaw05_span: function 55 -/
def palantypelaw05_span.f (a0 : Int) (a1 : Int) : Option (Int × Int) := some (a0, a1)
set_option maxHeartbeats 8000000 in
set_option maxRecDepth 100000 in
theorem palantypelaw05_span.calls (a0 : Int) (a1 : Int) (r1 : Int) (r2 : Int) (w : World) (h : palantypelaw05_span.f a0 a1 = some (r1, r2)) :
    Calls Try.prog 55 #[.int .i64 a0, .int .i64 a1] w fun e w' => e = .returned (.agg #[.int .i64 r1, .int .i64 r2]) ∧ Below w.heap.size w w' := by
  have hu49 := Try.underlying49
  have HB := Aside0.mk (Below.refl w.heap.size w)
  have H : (some (a0, a1)) = some (r1, r2) := h
  clear h
  simp only [Option.some.injEq, Prod.mk.injEq] at H
  obtain ⟨rfl, rfl⟩ := H
  go_enter Try.func55, Try.ntmps55
  go_wp2_with (first | ((with_reducible refine gate_dst (N := 4) rfl ?_); refine box_event ?hg (N := 4) ?hd (cs := #[.int .i64 0, .int .i64 0]) (t := 49) ?hr ?_; (case hd => rfl); (case hg => rfl); (case hr => first | (go_simp; done) | (go_simp; rfl)); intro gb101 hg w3 hbox hb; have n0_ := Aside0.mk (below_step (by repeat (first | (with_reducible first | exact HB.out | apply below_alloc | apply pw_below_drewN | apply below_drew1) | exact HB.out)) hb); have n1_ := Aside0.mk (hbox); have n2_ := Aside0.mk ((by rw [hg]; exact (below_size (by repeat (first | (with_reducible first | exact HB.out | apply below_alloc | apply pw_below_drewN | apply below_drew1) | exact HB.out))) : w.heap.size ≤ gb101)); have n3_ := Aside0.mk ((by rw [hg]; exact (below_size (by repeat (first | (with_reducible first | exact HB.out | apply below_alloc | apply pw_below_drewN | apply below_drew1) | exact HB.out))) : w.heap.size ≤ gb101)); clear HB; have HB := n0_; have BK101 := n1_; have GW101 := n2_; have GE101 := n3_; clear n0_ n1_ n2_ n3_; clear hb hbox hg; have hcz4_0 : w3.cell? ⟨gb101, 0, none⟩ = some (.int .i64 0) := (blk_cell BK101.out 0).trans rfl; have hcz4_1 : w3.cell? ⟨gb101, 1, none⟩ = some (.int .i64 0) := (blk_cell BK101.out 1).trans rfl; have hfz4_0 := blk_frozen BK101.out 0; have hfz4_1 := blk_frozen BK101.out 1))
  refine bodyPost_ret (results_cell_row rfl _ _ gb101 49 #[.int .i64 a0, .int .i64 a1] (0, 0) _ rfl (by (with_reducible repeat (first | refine blk_drewN ?_ _ | refine blk_drew ?_ | refine blk_alloc ?_ _)); refine blk_put (cs := #[.int .i64 a0, .int .i64 0]) ?_ 1 _ rfl; (with_reducible repeat (first | refine blk_drewN ?_ _ | refine blk_drew ?_ | refine blk_alloc ?_ _)); refine blk_put (cs := #[.int .i64 0, .int .i64 0]) ?_ 0 _ rfl; (with_reducible repeat (first | refine blk_drewN ?_ _ | refine blk_drew ?_ | refine blk_alloc ?_ _)); exact BK101.out) Try.underlying49 rfl (by kernel_rfl)) rfl ?_
  exact ⟨by first | rfl | (simp [errW_none, errW_some] <;> rfl) | (simp [*, errW_none, errW_some] <;> rfl), by repeat (first | (with_reducible first | exact HB.out | apply below_alloc | apply pw_below_drewN | apply below_drew1 | refine below_set ?_ GE101.out) | exact HB.out)⟩

end Go.Proofs.Ythpheknchikodaa.P
