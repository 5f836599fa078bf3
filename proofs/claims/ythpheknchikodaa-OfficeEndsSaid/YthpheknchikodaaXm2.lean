/- Contracts of functions that the laws reach, part Xm2. Conditions: each theorem names its own. -/
import Derived.Test.YthpheknchikodaaXb13
import Derived.Test.YthpheknchikodaaXm1
import Derived.Test.YthpheknchikodaaXb14
/- One number of a term of the program's, in one's own row, written; a roll that was made, as rows of one's own. Conditions: the row is one's own. -/
namespace Go.Proofs.Ythpheknchikodaa.P
open Go.RowKit Go.Proofs.YthpheknchikodaaW.PrintWords Go.Proofs.YthpheknchikodaaW.PrintLast
set_option linter.unusedVariables false
set_option linter.unusedSimpArgs false
theorem row59_put {W : World} {base g n cap : Nat} {ok : Nat → Prop} {xs : List S59} (h : Kd.R k59 59 W base ok (.slice (some ⟨g, 0, none⟩) n cap) xs) (i : Int) (h0 : 0 ≤ i) (h1 : i < n) (j : Nat) (v : Int) (x' : S59)
    (hj : j < 6) (hx : (six59 (rd_T59 xs i)).set j (.int .i64 v) = six59 x') : Kd.R k59 59 (W.setCell ⟨g, i.toNat * 6 + j, none⟩ (.int .i64 v)) base ok (.slice (some ⟨g, 0, none⟩) n cap) (xs.set i.toNat x') := by
  have hn : n = xs.length := (Kd.R_reads' h).1
  subst hn
  obtain ⟨ad, hA, y0, y1, y2, y3, y4, y5⟩ := at_T59 (Kd.R_reads' h).2.2 i h0 h1
  cases hA
  rw [add_plain] at y0 y1 y2 y3 y4 y5
  have hs := Kd.R_seg (okp := fun _ => False) h i h0 h1 (c := six59 (rd_T59 xs i)) (seg := [.int .i64 v]) (j := j) rfl (fun q u hq => ?_) (by show j + 1 ≤ 6; omega) (x' := x') ?_ (fun _ hk => hk.elim)
  · exact hs.1
  · match q, hq with
    | 0, hq => cases hq; exact y0
    | 1, hq => cases hq; exact y1
    | 2, hq => cases hq; exact y2
    | 3, hq => cases hq; exact y3
    | 4, hq => cases hq; exact y4
    | 5, hq => cases hq; exact y5
  · have e : (six59 (rd_T59 xs i)).take j ++ [Value.int .i64 v] ++ (six59 (rd_T59 xs i)).drop (j + [Value.int .i64 v].length) = six59 x' := by
      rw [← hx]
      match j, hj with
      | 0, _ => rfl
      | 1, _ => rfl
      | 2, _ => rfl
      | 3, _ => rfl
      | 4, _ => rfl
      | 5, _ => rfl
    rw [e]
    exact k59_mkM _ _ _ x'
theorem row59_frozen {W : World} {base g n cap : Nat} {ok : Nat → Prop} {xs : List S59} (h : Kd.R k59 59 W base ok (.slice (some ⟨g, 0, none⟩) n cap) xs) (hn : 0 < xs.length) (j : Nat) : W.frozen? ⟨g, j, none⟩ = false := by
  obtain ⟨g', c', e, -, -, cs, hc⟩ := Kd.R_form h hn
  injection e with e1
  injection e1 with e1
  injection e1 with e1
  subst e1
  exact blk_frozen hc j
theorem RollR_calls (p o : Int) (A2 : Option Addr) (c2 : Nat) (ts : List S54) (A3 : Option Addr) (c3 : Nat) (ns : List S88) (w : World) (h : RIn w A2 c2 ts A3 c3 ns) (hts : ts.length ≤ 45) (hns : ns.length ≤ 65) (h0 : 0 < ts.length) : Calls Try.prog 20 #[.agg #[.int .i64 p, .int .i64 o, .slice A2 ts.length c2, .slice A3 ns.length c3]] w fun e w' =>
    ∃ (g2 : Nat) (d2 : Nat) (B3 : Option Addr) (d3 : Nat), e = .returned (.agg #[.int .i64 p, .int .i64 o, .slice (some ⟨g2, 0, none⟩) ts.length d2, .slice B3 ns.length d3]) ∧ Kd.R k59 59 w' w.heap.size (fun _ => True) (.slice (some ⟨g2, 0, none⟩) ts.length d2) (ts.map toT) ∧ w.heap.size ≤ g2 ∧ g2 < w'.heap.size ∧ Kd.R k109 109 w' w.heap.size (fun _ => True) (.slice B3 ns.length d3) (ns.map toN) ∧ Below w.heap.size w w' := by
  obtain ⟨k, hk⟩ := (Roll_f p o ts ns hts hns).rounds
  refine (palantypelaw05_Roll.calls k p o A2 c2 ts A3 c3 ns _ _ _ _ w h.1 h.2.1 h.2.2.1 h.2.2.2 hk).mono ?_
  rintro e w' ⟨v2, v3, rfl, h2, h3, hb⟩
  obtain ⟨g2, d2, e2, hg1, hg2, -⟩ := Kd.R_form h2 (by rw [List.length_map]; exact h0)
  obtain ⟨B3, d3, e3⟩ := Kd.R_slice h3
  rw [List.length_map] at e2 e3
  subst e2 e3
  exact ⟨g2, d2, B3, d3, rfl, h2, hg1, hg2, h3, hb⟩
theorem rd59_set {xs : List S59} {k : Int} {x : S59} (h0 : 0 ≤ k) (h : k < (xs.length : Int)) : rd_T59 (xs.set k.toNat x) k = x := by
  unfold rd_T59
  have h' : k.toNat < xs.length := by omega
  simp [h']
theorem put_two {W : World} {base g n cap : Nat} {ok ok3 : Nat → Prop} {xs : List S59} {v3 : Value} {ys : List S109} (h : Kd.R k59 59 W base ok (.slice (some ⟨g, 0, none⟩) n cap) xs) (h3 : Kd.R k109 109 W base ok3 v3 ys) (k : Int) (h0 : 0 ≤ k) (h1 : k < n) (j : Nat) (lo hi : Int) (x1 x2 : S59)
    (hj : j < 5) (e1 : (six59 (rd_T59 xs k)).set j (.int .i64 lo) = six59 x1) (e2 : (six59 x1).set (j + 1) (.int .i64 hi) = six59 x2) :
    Kd.R k59 59 ((W.setCell ⟨g, k.toNat * 6 + j, none⟩ (.int .i64 lo)).setCell ⟨g, k.toNat * 6 + j + 1, none⟩ (.int .i64 hi)) base ok (.slice (some ⟨g, 0, none⟩) n cap) (xs.set k.toNat x2) ∧
      Kd.R k109 109 ((W.setCell ⟨g, k.toNat * 6 + j, none⟩ (.int .i64 lo)).setCell ⟨g, k.toNat * 6 + j + 1, none⟩ (.int .i64 hi)) base ok3 v3 ys := by
  have hn := (Kd.R_reads' h).1
  have hp := row59_put h k h0 h1 j lo x1 (by omega) e1
  have hq := row59_put hp k h0 h1 (j + 1) hi x2 (by omega) (by rw [rd59_set h0 (by omega)]; exact e2)
  rw [List.set_set] at hq
  refine ⟨hq, ?_⟩
  obtain ⟨g', c', e, -, -, cs, hc⟩ := Kd.R_form h (by omega)
  obtain ⟨g'', c'', e', -, -, cs', hc'⟩ := Kd.R_form hp (by rw [List.length_set]; omega)
  injection e with e1
  injection e1 with e1
  injection e1 with e1
  injection e' with e2
  injection e2 with e2
  injection e2 with e2
  subst e1
  subst e2
  exact Kd.R_set (Kd.R_set h3 hc (by decide) _ _) hc' (by decide) _ _
end Go.Proofs.Ythpheknchikodaa.P

/- The walk of the law OfficeEnds: it answers true. Conditions: none beyond the roll's being readable. -/
namespace Go.Proofs.Ythpheknchikodaa.P
open Go.RowKit Go.Proofs.YthpheknchikodaaW.PrintWords Go.Proofs.YthpheknchikodaaW.PrintLast
set_option linter.unusedVariables false
set_option linter.unusedSimpArgs false

theorem sound_nine {p o : Int} {ts : List S59} {ns : List S109} (h : rollFault p o ts ns = 0) (hs : ¬ soundOf p o ts ns = 0) : soundOf p o ts ns = 9 := by
  unfold soundOf at hs ⊢
  rw [if_pos h] at hs ⊢
  cases c : (firstClash 0 ts).isSome
  · rw [c] at hs; exact absurd rfl hs
  · rfl
theorem tAt_rd' (ts : List S54) (i : Int) (h : i.toNat < ts.length) : tAt (ts.map toT) i.toNat = toT (rd_T54 ts i) := by
  unfold tAt rd_T54
  simp [List.getD_eq_getElem?_getD, h]
theorem far2 {wx : World} {g i j : Nat} {u v val : Value} {p : Addr} (h : wx.cell? p = some val) (hne : g ≠ p.block) : ((wx.setCell ⟨g, i, none⟩ u).setCell ⟨g, j, none⟩ v).cell? p = some val := by
  have h1 : ∀ q : Nat, (⟨g, q, none⟩ : Addr) ≠ p := fun q e => hne (by rw [← e])
  exact (World.cell?_setCell_other _ _ _ _ (h1 j)).trans ((World.cell?_setCell_other _ _ _ _ (h1 i)).trans h)
/-- What the array of days says of its place n, and what becomes of the roll then. -/
theorem days_at {W : World} {gd go_ : Nat} {p o k : Int} {ts : List S54} {ns : List S88} {t : S54} {b e n : Int} (hd : W.heap[gd]? = some (.cells #[.int .i64 0, .int .i64 0, .int .i64 b, .int .i64 b, .int .i64 t.f3.f0, .int .i64 t.f3.f1, .int .i64 0, .int .i64 0, .int .i64 t.f2.f0, .int .i64 t.f2.f1, .int .i64 e, .int .i64 e, .int .i64 0, .int .i64 0, .int .i64 (b - 1), .int .i64 (b - 1), .int .i64 t.f3.f0, .int .i64 t.f3.f1, .int .i64 0, .int .i64 0, .int .i64 t.f2.f0, .int .i64 t.f2.f1, .int .i64 (e + 1), .int .i64 (e + 1)] 55 (0, 0))) (ho : W.heap[go_]? = some (.cells #[.bool false, .bool false, .bool (b == t.f2.f0), .bool (e == t.f3.f1)] 56 (0, 0)))
    (hs : soundOf p o ((ts.map toT).set k.toNat ⟨t.f0, t.f1, ⟨b, b⟩, ⟨t.f3.f0, t.f3.f1⟩⟩) (ns.map toN) = 0 ∧ soundOf p o ((ts.map toT).set k.toNat ⟨t.f0, t.f1, ⟨t.f2.f0, t.f2.f1⟩, ⟨e, e⟩⟩) (ns.map toN) = 0 ∧ (b ≠ t.f2.f0 → soundOf p o ((ts.map toT).set k.toNat ⟨t.f0, t.f1, ⟨b - 1, b - 1⟩, ⟨t.f3.f0, t.f3.f1⟩⟩) (ns.map toN) = 9) ∧ (e ≠ t.f3.f1 → soundOf p o ((ts.map toT).set k.toNat ⟨t.f0, t.f1, ⟨t.f2.f0, t.f2.f1⟩, ⟨e + 1, e + 1⟩⟩) (ns.map toN) = 9))
    (h0 : 0 ≤ n) (h4 : n < 4) : ∃ (lo hi lo' hi' : Int) (ob : Bool), W.cell? ⟨gd, n.toNat * 6 + 2, none⟩ = some (.int .i64 lo) ∧ W.cell? ⟨gd, n.toNat * 6 + 3, none⟩ = some (.int .i64 hi) ∧ W.cell? ⟨gd, n.toNat * 6 + 4, none⟩ = some (.int .i64 lo') ∧ W.cell? ⟨gd, n.toNat * 6 + 5, none⟩ = some (.int .i64 hi') ∧ W.cell? ⟨go_, n.toNat, none⟩ = some (.bool ob) ∧
      (ob = false → soundOf p o ((ts.map toT).set k.toNat ⟨t.f0, t.f1, ⟨lo, hi⟩, ⟨lo', hi'⟩⟩) (ns.map toN) = if n < 2 then 0 else 9) := by
  obtain ⟨s0, s1, s2, s3⟩ := hs
  have hn : n = 0 ∨ n = 1 ∨ n = 2 ∨ n = 3 := by omega
  rcases hn with rfl | rfl | rfl | rfl
  · exact ⟨_, _, _, _, _, blk_cell hd 2, blk_cell hd 3, blk_cell hd 4, blk_cell hd 5, blk_cell ho 0, fun _ => s0⟩
  · exact ⟨_, _, _, _, _, blk_cell hd 8, blk_cell hd 9, blk_cell hd 10, blk_cell hd 11, blk_cell ho 1, fun _ => s1⟩
  · exact ⟨_, _, _, _, _, blk_cell hd 14, blk_cell hd 15, blk_cell hd 16, blk_cell hd 17, blk_cell ho 2, fun h => s2 (fun h2 => by rw [h2] at h; simp at h)⟩
  · exact ⟨_, _, _, _, _, blk_cell hd 20, blk_cell hd 21, blk_cell hd 22, blk_cell hd 23, blk_cell ho 3, fun h => s3 (fun h2 => by rw [h2] at h; simp at h)⟩
set_option maxHeartbeats 4000000 in
set_option maxRecDepth 100000 in
theorem OfficeEnds_calls (p o : Int) (A2 : Option Addr) (c2 : Nat) (ts : List S54) (A3 : Option Addr) (c3 : Nat) (ns : List S88) (a1 : Int) (w : World) (hI : RIn w A2 c2 ts A3 c3 ns) (ha1 : 0 ≤ a1 ∧ a1 ≤ 255) :
    Calls Try.prog 5 #[.agg #[.int .i64 p, .int .i64 o, .slice A2 ts.length c2, .slice A3 ns.length c3], .int .u8 a1] w fun e w' => e = .returned (.bool true) ∧ Below w.heap.size w w' := by
  have hu25 := Try.underlying25
  have hu54 := Try.underlying54
  have hu52 := Try.underlying52
  have hu22 := Try.underlying22
  have hu51 := Try.underlying51
  have hu49 := Try.underlying49
  have hu45 := Try.underlying45
  have HB := Aside0.mk (below_alloc (Below.refl w.heap.size w) (.cells #[.int .i64 p, .int .i64 o, .slice A2 ts.length c2, .slice A3 ns.length c3] 25))
  have HIW := Aside0.mk hI
  have BK := Aside0.mk (blk_new w (.cells #[.int .i64 p, .int .i64 o, .slice A2 ts.length c2, .slice A3 ns.length c3] 25))
  have HA1 := Aside0.mk ha1
  clear hI ha1
  obtain ⟨x0, x1, x2, x3⟩ := roll_cells BK.out
  go_enter Try.func5, Try.ntmps5
  go_wp2_with fail
  cases hrd : readyB p o ts ns
  case false =>
    refine (ready_calls p o A2 c2 ts A3 c3 ns _ (HIW.out.below HB.out)).mono ?_
    rintro e w1 ⟨rfl, hb⟩
    rw [hrd]
    have n_ := Aside0.mk (below_then HB.out HB.out.size hb)
    clear HB
    have HB := n_
    clear n_
    clear hb
    go_wp2_with fail
    refine (awake_calls _).mono ?_
    rintro e wz ⟨rfl, hb⟩
    have HBz := Aside0.mk (below_then HB.out HB.out.size hb)
    clear hb
    go_wp2
    go_ret
    exact ⟨rfl, HBz.out⟩
  have hrd' := hrd
  unfold readyB at hrd'
  rw [Bool.and_eq_true] at hrd'
  obtain ⟨hts, hns, hsz⟩ := thin_facts hrd'.1
  have HNS := Aside0.mk hns
  have HFA := Aside0.mk (show rollFault p o (ts.map toT) (ns.map toN) = 0 from of_decide_eq_true hrd'.2)
  have HRO := Aside0.mk (rollOk_of HFA.out)
  have HTS := Aside0.mk (show ts.length ≤ 40 by have h := HRO.out.len; rw [List.length_map] at h; exact h)
  clear hts hns hsz hrd'
  refine (ready_calls p o A2 c2 ts A3 c3 ns _ (HIW.out.below HB.out)).mono ?_
  rintro e w1 ⟨rfl, hb⟩
  rw [hrd]
  clear hrd x0 x1 x2 x3
  have n_ := Aside0.mk (below_then HB.out HB.out.size hb)
  clear HB
  have HB := n_
  clear n_
  have n_ := Aside0.mk ((hb.block _ (blk_lt BK.out)).trans BK.out)
  clear BK
  have BK := n_
  clear n_
  clear hb
  obtain ⟨x0, x1, x2, x3⟩ := roll_cells BK.out
  by_cases htl : ts.length = 0
  case pos =>
    have e1 : ((ts.length : Int) == 0) = true := by rw [htl]; rfl
    have e2 : (ts.length == 0) = true := by rw [htl]; rfl
    clear htl
    go_wp2_with fail
    refine (awake_calls _).mono ?_
    rintro e wz ⟨rfl, hb⟩
    have HBz := Aside0.mk (below_then HB.out HB.out.size hb)
    clear hb
    go_wp2
    go_ret
    exact ⟨rfl, HBz.out⟩
  have e1 : ((ts.length : Int) == 0) = false := beq_eq_false_iff_ne.mpr (by omega)
  have e1b : ((ts.length : Int) = 0) = False := eq_false (by omega)
  have e1c : (ts.length = 0) = False := eq_false htl
  have e1d : (ts = []) = False := eq_false (fun h => htl (by rw [h]; rfl))
  have HTL := Aside0.mk (show 0 < ts.length by omega)
  clear htl
  have ha1 := HA1.out
  have hw2 : wrap64 a1 = a1 := by unfold wrap64; omega
  obtain ⟨k, e3⟩ : ∃ k, Int.tmod a1 (ts.length : Int) = k := ⟨_, rfl⟩
  have HK := Aside0.mk (show 0 ≤ k ∧ k < (ts.length : Int) by rw [← e3]; exact ⟨Int.tmod_nonneg _ ha1.1, Int.tmod_lt_of_pos _ (by have := HTL.out; omega)⟩)
  clear ha1
  go_wp2_with fail
  refine (Roll_calls p o A2 c2 ts A3 c3 ns _ (HIW.out.below HB.out) (by have := HTS.out; omega) HNS.out).mono ?_
  rintro e w2 ⟨B12, d12, B13, d13, rfl, ho, hb⟩
  have HO1 := Aside0.mk ho
  clear ho x0 x1 x2 x3
  have n_ := Aside0.mk (below_then HB.out HB.out.size hb)
  clear HB
  have HB := n_
  clear n_
  have n_ := Aside0.mk ((hb.block _ (blk_lt BK.out)).trans BK.out)
  clear BK
  have BK := n_
  clear n_
  clear hb
  obtain ⟨x0, x1, x2, x3⟩ := roll_cells BK.out
  go_wp2_with fail
  obtain ⟨L, hL⟩ : ∃ L, learnSpec p o (ts.map toT) (ns.map toN) = L := ⟨_, rfl⟩
  have HL := Aside0.mk hL
  clear hL
  refine (pLearn_calls p o B12 d12 (ts.map toT) B13 d13 (ns.map toN) _ _ (List.length_map ..) (List.length_map ..) _ HO1.out.1 HO1.out.2.1 HO1.out.2.2.1 HO1.out.2.2.2).mono ?_
  rintro e w3 ⟨AL, cL, rfl, -, hl2, hb⟩
  rw [HL.out] at hl2 ⊢
  have HKA := Aside0.mk hl2
  clear hl2 HO1 x0 x1 x2 x3
  have n_ := Aside0.mk (below_then HB.out HB.out.size hb)
  clear HB
  have HB := n_
  clear n_
  have n_ := Aside0.mk ((hb.block _ (blk_lt BK.out)).trans BK.out)
  clear BK
  have BK := n_
  clear n_
  clear hb
  obtain ⟨x0, x1, x2, x3⟩ := roll_cells BK.out
  have hls := HL.out
  unfold learnSpec at hls
  by_cases hs : soundOf p o (ts.map toT) (ns.map toN) = 0
  case neg =>
    rw [if_neg hs, sound_nine HFA.out hs] at hls
    subst hls
    simp only [List.length_nil]
    clear hs HL
    go_wp2_with fail
    refine (awake_calls _).mono ?_
    rintro e wz ⟨rfl, hb⟩
    have HBz := Aside0.mk (below_then HB.out HB.out.size hb)
    clear hb
    go_wp2
    go_ret
    exact ⟨rfl, HBz.out⟩
  rw [if_pos hs] at hls
  have HS1 := Aside0.mk (sound_zero hs).2
  obtain ⟨ka, hka⟩ : ∃ ka, (List.range (ts.map toT).length).map (knownAt (ts.map toT)) = ka := ⟨_, rfl⟩
  rw [hka] at hls
  have HA := Aside0.mk hka
  obtain rfl := hls.symm
  have HAL := Aside0.mk (show ka.length = ts.length by rw [← hka]; simp)
  simp only at HKA ⊢
  rw [HAL.out] at HKA ⊢
  clear hs hls hka HL
  have hkl : k.toNat < ts.length := by have := HK.out; omega
  have eT := tAt_rd' ts k hkl
  obtain ⟨t, ht⟩ : ∃ t, rd_T54 ts k = t := ⟨_, rfl⟩
  rw [ht] at eT
  obtain ⟨b, e, hkn, f1, f2, f3, f4, f5, f6, f7, s0, s1, s2, s3⟩ := end_facts HFA.out HS1.out (k := k.toNat) (by rw [List.length_map]; exact hkl)
  rw [eT] at hkn f1 f2 f3 f4 f5 f6 f7 s0 s1 s2 s3
  simp only [toT] at hkn f1 f2 f3 f4 f5 f6 f7 s0 s1 s2 s3
  have eA : rd_T51 ka k = ⟨⟨b, t.f2.f1⟩, ⟨t.f3.f0, e⟩⟩ := by rw [← hkn, ← HA.out]; unfold rd_T51; simp [hkl]
  obtain ⟨pt, hP, y0, y1, y2, y3, y4, y5⟩ := at_T54 (HIW.out.below HB.out).1 k HK.out.1 HK.out.2
  obtain ⟨pl, hP2, u0, u1, u2, u3⟩ := at_T51 HKA.out k HK.out.1 HK.out.2
  rw [ht] at y0 y1 y2 y3 y4 y5
  rw [eA] at u0 u1 u2 u3
  simp only at u0 u1 u2 u3
  cases hP
  cases hP2
  have HS := Aside0.mk (And.intro s0 (And.intro s1 (And.intro s2 s3)))
  have HF := Aside0.mk (And.intro f1 (And.intro f2 (And.intro f3 (And.intro f4 (And.intro f5 (And.intro f6 f7))))))
  have HTT := Aside0.mk ht
  have HET := Aside0.mk eT
  have k0' := eq_true HK.out.1
  have k1' := eq_true HK.out.2
  have c1' : decide (b < t.f2.f0) = false := decide_eq_false (by omega)
  have c2' : decide (t.f2.f1 < b) = false := decide_eq_false (by omega)
  have c3' : decide (t.f3.f1 < e) = false := decide_eq_false (by omega)
  have c4' : decide (e < t.f3.f0) = false := decide_eq_false (by omega)
  have w1' : wrap64 (b - 1) = b - 1 := by unfold wrap64; omega
  have w2' : wrap64 (e + 1) = e + 1 := by unfold wrap64; omega
  have hne : ((ts.length : Int) != (ts.length : Int)) = false := bne_self_eq_false _
  clear hkn eA ht eT f1 f2 f3 f4 f5 f6 f7 s0 s1 s2 s3 hkl
  have d1 := blk_lt BK.out
  have d2 : w.heap.size ≠ w3.heap.size := by omega
  have d3 : w3.heap.size ≠ w.heap.size := by omega
  have d4 : w.heap.size ≠ w3.heap.size + 1 := by omega
  have d5 : w3.heap.size + 1 ≠ w.heap.size := by omega
  clear d1
  have y2s := pw_cell_below (below_alloc (Below.refl w3.heap.size w3) (.cells #[.int .i64 b, .int .i64 t.f2.f1, .int .i64 t.f3.f0, .int .i64 e] 51)) x2
  have q0 := pw_cell_below (below_alloc (Below.refl w3.heap.size w3) (.cells #[.int .i64 b, .int .i64 t.f2.f1, .int .i64 t.f3.f0, .int .i64 e] 51)) y0
  have q1 := pw_cell_below (below_alloc (Below.refl w3.heap.size w3) (.cells #[.int .i64 b, .int .i64 t.f2.f1, .int .i64 t.f3.f0, .int .i64 e] 51)) y1
  have q2 := pw_cell_below (below_alloc (Below.refl w3.heap.size w3) (.cells #[.int .i64 b, .int .i64 t.f2.f1, .int .i64 t.f3.f0, .int .i64 e] 51)) y2
  have q3 := pw_cell_below (below_alloc (Below.refl w3.heap.size w3) (.cells #[.int .i64 b, .int .i64 t.f2.f1, .int .i64 t.f3.f0, .int .i64 e] 51)) y3
  have q4 := pw_cell_below (below_alloc (Below.refl w3.heap.size w3) (.cells #[.int .i64 b, .int .i64 t.f2.f1, .int .i64 t.f3.f0, .int .i64 e] 51)) y4
  have q5 := pw_cell_below (below_alloc (Below.refl w3.heap.size w3) (.cells #[.int .i64 b, .int .i64 t.f2.f1, .int .i64 t.f3.f0, .int .i64 e] 51)) y5
  have HBx := Aside0.mk (below_alloc (below_alloc (below_alloc HB.out (.cells #[.int .i64 b, .int .i64 t.f2.f1, .int .i64 t.f3.f0, .int .i64 e] 51)) (.cells #[.int .i64 t.f0, .int .i64 t.f1, .int .i64 t.f2.f0, .int .i64 t.f2.f1, .int .i64 t.f3.f0, .int .i64 t.f3.f1] 54)) (.cells #[.int .i64 0, .int .i64 0, .int .i64 0, .int .i64 0, .int .i64 0, .int .i64 0, .int .i64 0, .int .i64 0, .int .i64 0, .int .i64 0, .int .i64 0, .int .i64 0, .int .i64 0, .int .i64 0, .int .i64 0, .int .i64 0, .int .i64 0, .int .i64 0, .int .i64 0, .int .i64 0, .int .i64 0, .int .i64 0, .int .i64 0, .int .i64 0] 55))
  have BKx := Aside0.mk (blk_alloc (blk_alloc (blk_alloc BK.out (.cells #[.int .i64 b, .int .i64 t.f2.f1, .int .i64 t.f3.f0, .int .i64 e] 51)) (.cells #[.int .i64 t.f0, .int .i64 t.f1, .int .i64 t.f2.f0, .int .i64 t.f2.f1, .int .i64 t.f3.f0, .int .i64 t.f3.f1] 54)) (.cells #[.int .i64 0, .int .i64 0, .int .i64 0, .int .i64 0, .int .i64 0, .int .i64 0, .int .i64 0, .int .i64 0, .int .i64 0, .int .i64 0, .int .i64 0, .int .i64 0, .int .i64 0, .int .i64 0, .int .i64 0, .int .i64 0, .int .i64 0, .int .i64 0, .int .i64 0, .int .i64 0, .int .i64 0, .int .i64 0, .int .i64 0, .int .i64 0] 55))
  have BXx := Aside0.mk (blk_alloc (blk_alloc (blk_new w3 (.cells #[.int .i64 b, .int .i64 t.f2.f1, .int .i64 t.f3.f0, .int .i64 e] 51)) (.cells #[.int .i64 t.f0, .int .i64 t.f1, .int .i64 t.f2.f0, .int .i64 t.f2.f1, .int .i64 t.f3.f0, .int .i64 t.f3.f1] 54)) (.cells #[.int .i64 0, .int .i64 0, .int .i64 0, .int .i64 0, .int .i64 0, .int .i64 0, .int .i64 0, .int .i64 0, .int .i64 0, .int .i64 0, .int .i64 0, .int .i64 0, .int .i64 0, .int .i64 0, .int .i64 0, .int .i64 0, .int .i64 0, .int .i64 0, .int .i64 0, .int .i64 0, .int .i64 0, .int .i64 0, .int .i64 0, .int .i64 0] 55))
  have BTx := Aside0.mk (show (((w3.alloc (.cells #[.int .i64 b, .int .i64 t.f2.f1, .int .i64 t.f3.f0, .int .i64 e] 51)).alloc (.cells #[.int .i64 t.f0, .int .i64 t.f1, .int .i64 t.f2.f0, .int .i64 t.f2.f1, .int .i64 t.f3.f0, .int .i64 t.f3.f1] 54)).alloc (.cells #[.int .i64 0, .int .i64 0, .int .i64 0, .int .i64 0, .int .i64 0, .int .i64 0, .int .i64 0, .int .i64 0, .int .i64 0, .int .i64 0, .int .i64 0, .int .i64 0, .int .i64 0, .int .i64 0, .int .i64 0, .int .i64 0, .int .i64 0, .int .i64 0, .int .i64 0, .int .i64 0, .int .i64 0, .int .i64 0, .int .i64 0, .int .i64 0] 55)).heap[w3.heap.size + 1]? = some (.cells #[.int .i64 t.f0, .int .i64 t.f1, .int .i64 t.f2.f0, .int .i64 t.f2.f1, .int .i64 t.f3.f0, .int .i64 t.f3.f1] 54 (0, 0)) from by have h := blk_alloc (blk_new (w3.alloc (.cells #[.int .i64 b, .int .i64 t.f2.f1, .int .i64 t.f3.f0, .int .i64 e] 51)) (.cells #[.int .i64 t.f0, .int .i64 t.f1, .int .i64 t.f2.f0, .int .i64 t.f2.f1, .int .i64 t.f3.f0, .int .i64 t.f3.f1] 54)) (.cells #[.int .i64 0, .int .i64 0, .int .i64 0, .int .i64 0, .int .i64 0, .int .i64 0, .int .i64 0, .int .i64 0, .int .i64 0, .int .i64 0, .int .i64 0, .int .i64 0, .int .i64 0, .int .i64 0, .int .i64 0, .int .i64 0, .int .i64 0, .int .i64 0, .int .i64 0, .int .i64 0, .int .i64 0, .int .i64 0, .int .i64 0, .int .i64 0] 55); rw [World.size_alloc] at h; exact h)
  have BZx := Aside0.mk (show (((w3.alloc (.cells #[.int .i64 b, .int .i64 t.f2.f1, .int .i64 t.f3.f0, .int .i64 e] 51)).alloc (.cells #[.int .i64 t.f0, .int .i64 t.f1, .int .i64 t.f2.f0, .int .i64 t.f2.f1, .int .i64 t.f3.f0, .int .i64 t.f3.f1] 54)).alloc (.cells #[.int .i64 0, .int .i64 0, .int .i64 0, .int .i64 0, .int .i64 0, .int .i64 0, .int .i64 0, .int .i64 0, .int .i64 0, .int .i64 0, .int .i64 0, .int .i64 0, .int .i64 0, .int .i64 0, .int .i64 0, .int .i64 0, .int .i64 0, .int .i64 0, .int .i64 0, .int .i64 0, .int .i64 0, .int .i64 0, .int .i64 0, .int .i64 0] 55)).heap[w3.heap.size + 2]? = some (.cells #[.int .i64 0, .int .i64 0, .int .i64 0, .int .i64 0, .int .i64 0, .int .i64 0, .int .i64 0, .int .i64 0, .int .i64 0, .int .i64 0, .int .i64 0, .int .i64 0, .int .i64 0, .int .i64 0, .int .i64 0, .int .i64 0, .int .i64 0, .int .i64 0, .int .i64 0, .int .i64 0, .int .i64 0, .int .i64 0, .int .i64 0, .int .i64 0] 55 (0, 0)) from by have h := blk_new ((w3.alloc (.cells #[.int .i64 b, .int .i64 t.f2.f1, .int .i64 t.f3.f0, .int .i64 e] 51)).alloc (.cells #[.int .i64 t.f0, .int .i64 t.f1, .int .i64 t.f2.f0, .int .i64 t.f2.f1, .int .i64 t.f3.f0, .int .i64 t.f3.f1] 54)) (.cells #[.int .i64 0, .int .i64 0, .int .i64 0, .int .i64 0, .int .i64 0, .int .i64 0, .int .i64 0, .int .i64 0, .int .i64 0, .int .i64 0, .int .i64 0, .int .i64 0, .int .i64 0, .int .i64 0, .int .i64 0, .int .i64 0, .int .i64 0, .int .i64 0, .int .i64 0, .int .i64 0, .int .i64 0, .int .i64 0, .int .i64 0, .int .i64 0] 55); rw [World.size_alloc, World.size_alloc] at h; exact h)
  have HSZ := Aside0.mk (show w.heap.size < w3.heap.size from blk_lt BK.out)
  go_wp2_with ((with_reducible refine gate_op (x := .store 55 (.tmp 10) (.tmp 156)) rfl ?_); go_loud (refine store_whole _ rfl 55 (.tmp 10) (.tmp 156) rfl (w3.heap.size + 2) 24 #[.int .i64 0, .int .i64 0, .int .i64 0, .int .i64 0, .int .i64 0, .int .i64 0, .int .i64 0, .int .i64 0, .int .i64 0, .int .i64 0, .int .i64 0, .int .i64 0, .int .i64 0, .int .i64 0, .int .i64 0, .int .i64 0, .int .i64 0, .int .i64 0, .int .i64 0, .int .i64 0, .int .i64 0, .int .i64 0, .int .i64 0, .int .i64 0] #[.int .i64 0, .int .i64 0, .int .i64 b, .int .i64 b, .int .i64 t.f3.f0, .int .i64 t.f3.f1, .int .i64 0, .int .i64 0, .int .i64 t.f2.f0, .int .i64 t.f2.f1, .int .i64 e, .int .i64 e, .int .i64 0, .int .i64 0, .int .i64 (b - 1), .int .i64 (b - 1), .int .i64 t.f3.f0, .int .i64 t.f3.f1, .int .i64 0, .int .i64 0, .int .i64 t.f2.f0, .int .i64 t.f2.f1, .int .i64 (e + 1), .int .i64 (e + 1)] rfl rfl Try.sizeOf55 BZx.out rfl rfl (by simp [Value.oneCell']) ?_); intro w4 hb4 hg4 hz4; have BD := Aside0.mk hb4; have BK4 := Aside0.mk (blk_grown BKx.out hg4 (by have := HSZ.out; simp; omega)); have BX4 := Aside0.mk (blk_grown BXx.out hg4 (by simp)); have BT4 := Aside0.mk (blk_grown BTx.out hg4 (by simp)); have HB4 := Aside0.mk (pw_below_grown HBx.out (some (w3.heap.size + 2)) (below_size HBx.out) hg4 (fun k hk => by injection hk with hk; have := HSZ.out; omega)); obtain ⟨m0, m1, m2, m3⟩ := roll_cells BX4.out; obtain ⟨z0, z1, z2, z3, z4, z5⟩ := six_cells BT4.out; clear hb4 hg4 hz4 HBx BKx BXx BTx BZx HB BK x0 x1 x2 x3 y0 y1 y2 y3 y4 y5 y2s q0 q1 q2 q3 q4 q5 u0 u1 u2 u3)
  have HB := Aside0.mk (below_alloc HB4.out (.cells #[.bool false, .bool false, .bool (b == t.f2.f0), .bool (e == t.f3.f1)] 56))
  have BK := Aside0.mk (blk_alloc BK4.out (.cells #[.bool false, .bool false, .bool (b == t.f2.f0), .bool (e == t.f3.f1)] 56))
  have n_ := Aside0.mk (blk_alloc BD.out (.cells #[.bool false, .bool false, .bool (b == t.f2.f0), .bool (e == t.f3.f1)] 56))
  clear BD
  have BD := n_
  clear n_
  have BO := Aside0.mk (blk_new w4 (.cells #[.bool false, .bool false, .bool (b == t.f2.f0), .bool (e == t.f3.f1)] 56))
  clear BK4 BX4 BT4 HB4 m0 m1 m2 m3 z0 z1 z2 z3 z4 z5 c1' c2' c3' c4' w1' w2' d2 d3 d4 d5 HKA
  generalize w4.alloc (.cells #[.bool false, .bool false, .bool (b == t.f2.f0), .bool (e == t.f3.f1)] 56) = w5 at HB BK BD BO ⊢
  obtain ⟨gd, hgd⟩ : ∃ gd, w3.heap.size + 2 = gd := ⟨_, rfl⟩
  obtain ⟨go_, hgo⟩ : ∃ go_, w4.heap.size = go_ := ⟨_, rfl⟩
  rw [hgd] at BD ⊢
  rw [hgo] at BO ⊢
  clear hgd hgo
  go_loopg [12] 4 (fun kq v12 w' => ∃ n : Int, v12 = .int .i64 n ∧ Aside0 (0 ≤ n ∧ kq + n.toNat = 4) ∧ Aside0 (Below w.heap.size w w') ∧ Aside0 (w'.heap[w.heap.size]? = some (.cells #[.int .i64 p, .int .i64 o, .slice (some pt) ts.length c2, .slice A3 ns.length c3] 25 (0, 0))) ∧ Aside0 (w'.heap[gd]? = some (.cells #[.int .i64 0, .int .i64 0, .int .i64 b, .int .i64 b, .int .i64 t.f3.f0, .int .i64 t.f3.f1, .int .i64 0, .int .i64 0, .int .i64 t.f2.f0, .int .i64 t.f2.f1, .int .i64 e, .int .i64 e, .int .i64 0, .int .i64 0, .int .i64 (b - 1), .int .i64 (b - 1), .int .i64 t.f3.f0, .int .i64 t.f3.f1, .int .i64 0, .int .i64 0, .int .i64 t.f2.f0, .int .i64 t.f2.f1, .int .i64 (e + 1), .int .i64 (e + 1)] 55 (0, 0))) ∧ Aside0 (w'.heap[go_]? = some (.cells #[.bool false, .bool false, .bool (b == t.f2.f0), .bool (e == t.f3.f1)] 56 (0, 0))))
  case atStart => exact ⟨0, rfl, ⟨by simp⟩, HB, BK, BD, BO⟩
  case round =>
    clear HB BK BD BO
    obtain ⟨n, rfl, HN, HB, BK, BD, BO⟩ := hrel
    rename World => W1
    by_cases hn : n < 4
    case neg =>
      have t0 : decide (n < 4) = false := decide_eq_false hn
      clear hn
      go_wp2_with fail
      refine (awake_calls _).mono ?_
      rintro e wz ⟨rfl, hb⟩
      have HBz := Aside0.mk (below_then HB.out HB.out.size hb)
      clear hb
      go_wp2
      go_ret
      exact ⟨rfl, HBz.out⟩
    case pos =>
      have t0 : decide (n < 4) = true := decide_eq_true hn
      have HW := Aside0.mk (show wrap64 (n + 1) = n + 1 by unfold wrap64; have := HN.out; omega)
      have HN4 := Aside0.mk hn
      obtain ⟨lo, hi, lo', hi', ob, D2, D3, D4, D5, DO, SND⟩ := days_at (k := k) (ns := ns) (p := p) (o := o) BD.out BO.out HS.out HN.out.1 hn
      obtain ⟨x0, x1, x2, x3⟩ := roll_cells BK.out
      have n0 := eq_true HN.out.1
      have n1 := eq_true hn
      clear hn
      have HSN := Aside0.mk SND
      clear SND
      cases ob with
      | true =>
        go_wp2
        go_roundg (gk - 1)
        case measure => have := HN.out; have := HN4.out; omega
        case rel => exact ⟨n + 1, by first | rfl | rw [HW.out], ⟨by have := HN.out; have := HN4.out; omega⟩, HB, BK, BD, BO⟩
      | false =>
        go_wp2_with fail
        refine (RollR_calls p o (some pt) c2 ts A3 c3 ns _ (HIW.out.below HB.out) (by have := HTS.out; omega) HNS.out HTL.out).mono ?_
        rintro e6 w6 ⟨g2, d2, B3, d3, rfl, ho, hg1, hg2, hC3, hb⟩
        have HG2 := Aside0.mk (And.intro hg1 hg2)
        have HC3 := Aside0.mk hC3
        have HO := Aside0.mk ho
        have HSZ1 := Aside0.mk (show w.heap.size ≤ W1.heap.size ∧ w.heap.size < W1.heap.size ∧ gd < W1.heap.size ∧ go_ < W1.heap.size from ⟨HB.out.size, blk_lt BK.out, blk_lt BD.out, blk_lt BO.out⟩)
        have HDD := Aside0.mk (And.intro (pw_cell_below hb D2) (And.intro (pw_cell_below hb D3) (And.intro (pw_cell_below hb D4) (pw_cell_below hb D5))))
        clear ho hg1 hg2 hC3 x0 x1 x2 x3 D2 D3 D4 D5 DO
        have HBB := Aside0.mk hb
        have n_ := Aside0.mk (below_then HB.out HB.out.size hb)
        clear HB
        have HB := n_
        clear n_
        have n_ := Aside0.mk ((hb.block _ (blk_lt BK.out)).trans BK.out)
        clear BK
        have BK := n_
        clear n_
        have n_ := Aside0.mk ((hb.block _ (blk_lt BD.out)).trans BD.out)
        clear BD
        have BD := n_
        clear n_
        have n_ := Aside0.mk ((hb.block _ (blk_lt BO.out)).trans BO.out)
        clear BO
        have BO := n_
        clear n_
        clear hb
        have HBy := Aside0.mk (below_alloc HB.out (.cells #[.int .i64 p, .int .i64 o, .slice (some ⟨g2, 0, none⟩) ts.length d2, .slice B3 ns.length d3] 35))
        have BKy := Aside0.mk (blk_alloc BK.out (.cells #[.int .i64 p, .int .i64 o, .slice (some ⟨g2, 0, none⟩) ts.length d2, .slice B3 ns.length d3] 35))
        have BDy := Aside0.mk (blk_alloc BD.out (.cells #[.int .i64 p, .int .i64 o, .slice (some ⟨g2, 0, none⟩) ts.length d2, .slice B3 ns.length d3] 35))
        have BOy := Aside0.mk (blk_alloc BO.out (.cells #[.int .i64 p, .int .i64 o, .slice (some ⟨g2, 0, none⟩) ts.length d2, .slice B3 ns.length d3] 35))
        have BYy := Aside0.mk (blk_new w6 (.cells #[.int .i64 p, .int .i64 o, .slice (some ⟨g2, 0, none⟩) ts.length d2, .slice B3 ns.length d3] 35))
        have HOy := Aside0.mk (Kd.R_alloc (o := (.cells #[.int .i64 p, .int .i64 o, .slice (some ⟨g2, 0, none⟩) ts.length d2, .slice B3 ns.length d3] 35)) HO.out)
        have n_ := Aside0.mk (Kd.R_alloc (o := (.cells #[.int .i64 p, .int .i64 o, .slice (some ⟨g2, 0, none⟩) ts.length d2, .slice B3 ns.length d3] 35)) HC3.out)
        clear HC3
        have HC3 := n_
        clear n_
        obtain ⟨D2, D3, D4, D5⟩ := HDD.out
        replace D2 := pw_cell_below (below_alloc (Below.refl w6.heap.size w6) (.cells #[.int .i64 p, .int .i64 o, .slice (some ⟨g2, 0, none⟩) ts.length d2, .slice B3 ns.length d3] 35)) D2
        replace D3 := pw_cell_below (below_alloc (Below.refl w6.heap.size w6) (.cells #[.int .i64 p, .int .i64 o, .slice (some ⟨g2, 0, none⟩) ts.length d2, .slice B3 ns.length d3] 35)) D3
        replace D4 := pw_cell_below (below_alloc (Below.refl w6.heap.size w6) (.cells #[.int .i64 p, .int .i64 o, .slice (some ⟨g2, 0, none⟩) ts.length d2, .slice B3 ns.length d3] 35)) D4
        replace D5 := pw_cell_below (below_alloc (Below.refl w6.heap.size w6) (.cells #[.int .i64 p, .int .i64 o, .slice (some ⟨g2, 0, none⟩) ts.length d2, .slice B3 ns.length d3] 35)) D5
        have Y2 := (blk_cell BYy.out 2).trans (show _ = some (Value.slice (some ⟨g2, 0, none⟩) ts.length d2) from rfl)
        clear HB BK BD BO HO HBB HDD
        go_wp2
        have HBd := Aside0.mk (below_drew1 HBy.out)
        have BKd := Aside0.mk (show (w6.alloc (.cells #[.int .i64 p, .int .i64 o, .slice (some ⟨g2, 0, none⟩) ts.length d2, .slice B3 ns.length d3] 35)).drew.heap[w.heap.size]? = some (.cells #[.int .i64 p, .int .i64 o, .slice (some pt) ts.length c2, .slice A3 ns.length c3] 25 (0, 0)) from BKy.out)
        have BDd := Aside0.mk (show (w6.alloc (.cells #[.int .i64 p, .int .i64 o, .slice (some ⟨g2, 0, none⟩) ts.length d2, .slice B3 ns.length d3] 35)).drew.heap[gd]? = some (.cells #[.int .i64 0, .int .i64 0, .int .i64 b, .int .i64 b, .int .i64 t.f3.f0, .int .i64 t.f3.f1, .int .i64 0, .int .i64 0, .int .i64 t.f2.f0, .int .i64 t.f2.f1, .int .i64 e, .int .i64 e, .int .i64 0, .int .i64 0, .int .i64 (b - 1), .int .i64 (b - 1), .int .i64 t.f3.f0, .int .i64 t.f3.f1, .int .i64 0, .int .i64 0, .int .i64 t.f2.f0, .int .i64 t.f2.f1, .int .i64 (e + 1), .int .i64 (e + 1)] 55 (0, 0)) from BDy.out)
        have BOd := Aside0.mk (show (w6.alloc (.cells #[.int .i64 p, .int .i64 o, .slice (some ⟨g2, 0, none⟩) ts.length d2, .slice B3 ns.length d3] 35)).drew.heap[go_]? = some (.cells #[.bool false, .bool false, .bool (b == t.f2.f0), .bool (e == t.f3.f1)] 56 (0, 0)) from BOy.out)
        have BYd := Aside0.mk (show (w6.alloc (.cells #[.int .i64 p, .int .i64 o, .slice (some ⟨g2, 0, none⟩) ts.length d2, .slice B3 ns.length d3] 35)).drew.heap[w6.heap.size]? = some (.cells #[.int .i64 p, .int .i64 o, .slice (some ⟨g2, 0, none⟩) ts.length d2, .slice B3 ns.length d3] 35 (0, 0)) from BYy.out)
        have HOd := Aside0.mk (Kd.R_drew HOy.out)
        have H3d := Aside0.mk (Kd.R_drew HC3.out)
        clear HBy BKy BDy BOy BYy HOy HC3
        have HNE := Aside0.mk (show w.heap.size ≠ g2 ∧ gd ≠ g2 ∧ go_ ≠ g2 ∧ w6.heap.size ≠ g2 ∧ w.heap.size ≤ g2 by have h1 := HG2.out; have h2 := HSZ1.out; refine ⟨?_, ?_, ?_, ?_, ?_⟩ <;> omega)
        refine start_ (n := 22) (S := fun w' => w'.cell? ⟨w6.heap.size, 2, none⟩ = some (.slice (some ⟨g2, 0, none⟩) ts.length d2) ∧ w'.cell? ⟨gd, n.toNat * 6 + 2, none⟩ = some (.int .i64 lo) ∧ w'.cell? ⟨gd, n.toNat * 6 + 2 + 1, none⟩ = some (.int .i64 hi) ∧ w'.cell? ⟨gd, n.toNat * 6 + 4, none⟩ = some (.int .i64 lo') ∧ w'.cell? ⟨gd, n.toNat * 6 + 4 + 1, none⟩ = some (.int .i64 hi')) (ds := [21]) #[false, false, false, false, false, false, false, false, false, false, false, false, false, false, false, false, false, false, false, false, false, false] (by kernel_rfl) rfl rfl ⟨Y2, D2, D3, D4, D5⟩ (fun hHeld => ?_)
        generalize (w6.alloc (.cells #[.int .i64 p, .int .i64 o, .slice (some ⟨g2, 0, none⟩) ts.length d2, .slice B3 ns.length d3] 35)).drew = wd at HBd BKd BDd BOd BYd HOd H3d hHeld ⊢
        refine pure_ (i := 0) (N := some 181) (v := ?_) (a' := ?_) #[true, false, false, false, false, false, false, false, false, false, false, false, false, false, false, false, false, false, false, false, false, false] rfl rfl (by kernel_rfl) (fun _ _ _ h => h) (Or.inl ⟨by rfl, ?_⟩) ?_ ?_
        rotate_left
        · intro w'
          go_simp
          with_reducible rfl
        rotate_left
        · simp only [Act.put, List.setIfInBounds_toArray, List.set_cons_zero, List.set_cons_succ, i64_w, i32_w]
          rfl
        refine pure_ (i := 2) (N := some 183) (v := ?_) (a' := ?_) #[true, false, true, false, false, false, false, false, false, false, false, false, false, false, false, false, false, false, false, false, false, false] rfl rfl (by kernel_rfl) (fun _ _ _ h => h) (Or.inl ⟨by rfl, ?_⟩) ?_ ?_
        rotate_left
        · intro w'
          go_simp
          with_reducible rfl
        rotate_left
        · simp only [Act.put, List.setIfInBounds_toArray, List.set_cons_zero, List.set_cons_succ, i64_w, i32_w]
          rfl
        refine pure_ (i := 3) (N := some 184) (v := ?_) (a' := ?_) #[true, false, true, true, false, false, false, false, false, false, false, false, false, false, false, false, false, false, false, false, false, false] rfl rfl (by kernel_rfl) (fun _ _ _ h => h) (Or.inl ⟨by rfl, ?_⟩) ?_ ?_
        rotate_left
        · intro w'
          go_simp
          with_reducible rfl
        rotate_left
        · simp only [Act.put, List.setIfInBounds_toArray, List.set_cons_zero, List.set_cons_succ, i64_w, i32_w]
          rfl
        refine pure_ (i := 5) (N := some 186) (v := ?_) (a' := ?_) #[true, false, true, true, false, true, false, false, false, false, false, false, false, false, false, false, false, false, false, false, false, false] rfl rfl (by kernel_rfl) (fun _ _ _ h => h) (Or.inl ⟨by rfl, ?_⟩) ?_ ?_
        rotate_left
        · intro w'
          go_simp
          with_reducible rfl
        rotate_left
        · simp only [Act.put, List.setIfInBounds_toArray, List.set_cons_zero, List.set_cons_succ, i64_w, i32_w]
          rfl
        refine pure_ (i := 6) (N := some 187) (v := ?_) (a' := ?_) #[true, false, true, true, false, true, true, false, false, false, false, false, false, false, false, false, false, false, false, false, false, false] rfl rfl (by kernel_rfl) (fun _ _ _ h => h) (Or.inl ⟨by rfl, ?_⟩) ?_ ?_
        rotate_left
        · intro w'
          go_simp
          with_reducible rfl
        rotate_left
        · simp only [Act.put, List.setIfInBounds_toArray, List.set_cons_zero, List.set_cons_succ, i64_w, i32_w]
          rfl
        refine pure_ (i := 7) (N := some 188) (v := ?_) (a' := ?_) #[true, false, true, true, false, true, true, true, false, false, false, false, false, false, false, false, false, false, false, false, false, false] rfl rfl (by kernel_rfl) (fun _ _ _ h => h) (Or.inl ⟨by rfl, ?_⟩) ?_ ?_
        rotate_left
        · intro w'
          go_simp
          with_reducible rfl
        rotate_left
        · simp only [Act.put, List.setIfInBounds_toArray, List.set_cons_zero, List.set_cons_succ, i64_w, i32_w]
          rfl
        refine pure_ (i := 8) (N := some 189) (v := ?_) (a' := ?_) #[true, false, true, true, false, true, true, true, true, false, false, false, false, false, false, false, false, false, false, false, false, false] rfl rfl (by kernel_rfl) (fun _ _ _ h => h) (Or.inl ⟨by rfl, ?_⟩) ?_ ?_
        rotate_left
        · intro w'
          go_simp
          with_reducible rfl
        rotate_left
        · simp only [Act.put, List.setIfInBounds_toArray, List.set_cons_zero, List.set_cons_succ, i64_w, i32_w]
          rfl
        refine pure_ (i := 11) (N := some 192) (v := ?_) (a' := ?_) #[true, false, true, true, false, true, true, true, true, false, false, true, false, false, false, false, false, false, false, false, false, false] rfl rfl (by kernel_rfl) (fun _ _ _ h => h) (Or.inl ⟨by rfl, ?_⟩) ?_ ?_
        rotate_left
        · intro w'
          go_simp
          with_reducible rfl
        rotate_left
        · simp only [Act.put, List.setIfInBounds_toArray, List.set_cons_zero, List.set_cons_succ, i64_w, i32_w]
          rfl
        refine pure_ (i := 12) (N := some 193) (v := ?_) (a' := ?_) #[true, false, true, true, false, true, true, true, true, false, false, true, true, false, false, false, false, false, false, false, false, false] rfl rfl (by kernel_rfl) (fun _ _ _ h => h) (Or.inl ⟨by rfl, ?_⟩) ?_ ?_
        rotate_left
        · intro w'
          go_simp
          with_reducible rfl
        rotate_left
        · simp only [Act.put, List.setIfInBounds_toArray, List.set_cons_zero, List.set_cons_succ, i64_w, i32_w]
          rfl
        refine pure_ (i := 13) (N := some 194) (v := ?_) (a' := ?_) #[true, false, true, true, false, true, true, true, true, false, false, true, true, true, false, false, false, false, false, false, false, false] rfl rfl (by kernel_rfl) (fun _ _ _ h => h) (Or.inl ⟨by rfl, ?_⟩) ?_ ?_
        rotate_left
        · intro w'
          go_simp
          with_reducible rfl
        rotate_left
        · simp only [Act.put, List.setIfInBounds_toArray, List.set_cons_zero, List.set_cons_succ, i64_w, i32_w]
          rfl
        refine take_ (i := 1) (N := some 182) (v := ?_) (a' := ?_) #[true, true, true, true, false, true, true, true, true, false, false, true, true, true, false, false, false, false, false, false, false, false] rfl rfl (by kernel_rfl) (fun _ _ _ h => h) (Or.inl ⟨by rfl, ?_⟩) hHeld ?_ ?_
        rotate_left
        · rintro w' ⟨s0, s1, s2, s3, s4⟩
          go_simp
          with_reducible rfl
        rotate_left
        · simp only [Act.put, List.setIfInBounds_toArray, List.set_cons_zero, List.set_cons_succ, i64_w, i32_w]
          rfl
        refine take_ (i := 4) (N := some 185) (v := ?_) (a' := ?_) #[true, true, true, true, true, true, true, true, true, false, false, true, true, true, false, false, false, false, false, false, false, false] rfl rfl (by kernel_rfl) (fun _ _ _ h => h) (Or.inl ⟨by rfl, ?_⟩) hHeld ?_ ?_
        rotate_left
        · rintro w' ⟨s0, s1, s2, s3, s4⟩
          go_simp
          with_reducible rfl
        rotate_left
        · simp only [Act.put, List.setIfInBounds_toArray, List.set_cons_zero, List.set_cons_succ, i64_w, i32_w]
          rfl
        refine take_ (i := 9) (N := some 190) (v := ?_) (a' := ?_) #[true, true, true, true, true, true, true, true, true, true, false, true, true, true, false, false, false, false, false, false, false, false] rfl rfl (by kernel_rfl) (fun _ _ _ h => h) (Or.inl ⟨by rfl, ?_⟩) hHeld ?_ ?_
        rotate_left
        · rintro w' ⟨s0, s1, s2, s3, s4⟩
          go_simp
          with_reducible rfl
        rotate_left
        · simp only [Act.put, List.setIfInBounds_toArray, List.set_cons_zero, List.set_cons_succ, i64_w, i32_w]
          rfl
        refine take_ (i := 14) (N := some 195) (v := ?_) (a' := ?_) #[true, true, true, true, true, true, true, true, true, true, false, true, true, true, true, false, false, false, false, false, false, false] rfl rfl (by kernel_rfl) (fun _ _ _ h => h) (Or.inl ⟨by rfl, ?_⟩) hHeld ?_ ?_
        rotate_left
        · rintro w' ⟨s0, s1, s2, s3, s4⟩
          go_simp
          with_reducible rfl
        rotate_left
        · simp only [Act.put, List.setIfInBounds_toArray, List.set_cons_zero, List.set_cons_succ, i64_w, i32_w]
          rfl
        refine one_ (i := 10) (N := some 191) #[true, true, true, true, true, true, true, true, true, true, true, true, true, true, true, false, false, false, false, false, false, false] rfl rfl (by kernel_rfl) (by decide) (fun K hK => ?_)
        refine goes_ Try.func28 (by kernel_rfl) rfl #[.agg #[.int .i64 lo, .int .i64 hi]] (by rfl) rfl rfl (by simp only [List.map_toArray, List.map_cons, List.map_nil]; rfl) ?_
        refine (palantypelaw05_to.calls lo hi lo hi _ rfl).mono ?_
        rintro e w7 ⟨rfl, hb⟩
        refine ⟨_, rfl, ?_⟩
        have n_ := Aside0.mk (below_then HBd.out HBd.out.size hb)
        clear HBd
        have HBd := n_
        clear n_
        have n_ := Aside0.mk ((hb.block _ (blk_lt BKd.out)).trans BKd.out)
        clear BKd
        have BKd := n_
        clear n_
        have n_ := Aside0.mk ((hb.block _ (blk_lt BDd.out)).trans BDd.out)
        clear BDd
        have BDd := n_
        clear n_
        have n_ := Aside0.mk ((hb.block _ (blk_lt BOd.out)).trans BOd.out)
        clear BOd
        have BOd := n_
        clear n_
        have n_ := Aside0.mk ((hb.block _ (blk_lt BYd.out)).trans BYd.out)
        clear BYd
        have BYd := n_
        clear n_
        have n_ := Aside0.mk (Kd.R_below HOd.out hb)
        clear HOd
        have HOd := n_
        clear n_
        have n_ := Aside0.mk (Kd.R_below H3d.out hb)
        clear H3d
        have H3d := n_
        clear n_
        refine hK.out _ _ ⟨pw_cell_below hb (hHeld.1), pw_cell_below hb (hHeld.2.1), pw_cell_below hb (hHeld.2.2.1), pw_cell_below hb (hHeld.2.2.2.1), pw_cell_below hb (hHeld.2.2.2.2)⟩ (fun hHeld => ?_)
        clear hK K
        refine norm_ (a' := ?_) ?_ ?_
        rotate_left
        · show Act.put _ (some 191) _ = _
          simp only [Act.put, List.setIfInBounds_toArray, List.set_cons_zero, List.set_cons_succ, i64_w, i32_w]
          rfl
        refine one_ (i := 15) (N := some 196) #[true, true, true, true, true, true, true, true, true, true, true, true, true, true, true, true, false, false, false, false, false, false] rfl rfl (by kernel_rfl) (by decide) (fun K hK => ?_)
        refine goes_ Try.func28 (by kernel_rfl) rfl #[.agg #[.int .i64 lo', .int .i64 hi']] (by rfl) rfl rfl (by simp only [List.map_toArray, List.map_cons, List.map_nil]; rfl) ?_
        refine (palantypelaw05_to.calls lo' hi' lo' hi' _ rfl).mono ?_
        rintro e w8 ⟨rfl, hb⟩
        refine ⟨_, rfl, ?_⟩
        have n_ := Aside0.mk (below_then HBd.out HBd.out.size hb)
        clear HBd
        have HBd := n_
        clear n_
        have n_ := Aside0.mk ((hb.block _ (blk_lt BKd.out)).trans BKd.out)
        clear BKd
        have BKd := n_
        clear n_
        have n_ := Aside0.mk ((hb.block _ (blk_lt BDd.out)).trans BDd.out)
        clear BDd
        have BDd := n_
        clear n_
        have n_ := Aside0.mk ((hb.block _ (blk_lt BOd.out)).trans BOd.out)
        clear BOd
        have BOd := n_
        clear n_
        have n_ := Aside0.mk ((hb.block _ (blk_lt BYd.out)).trans BYd.out)
        clear BYd
        have BYd := n_
        clear n_
        have n_ := Aside0.mk (Kd.R_below HOd.out hb)
        clear HOd
        have HOd := n_
        clear n_
        have n_ := Aside0.mk (Kd.R_below H3d.out hb)
        clear H3d
        have H3d := n_
        clear n_
        refine hK.out _ _ ⟨pw_cell_below hb (hHeld.1), pw_cell_below hb (hHeld.2.1), pw_cell_below hb (hHeld.2.2.1), pw_cell_below hb (hHeld.2.2.2.1), pw_cell_below hb (hHeld.2.2.2.2)⟩ (fun hHeld => ?_)
        clear hK K
        refine norm_ (a' := ?_) ?_ ?_
        rotate_left
        · show Act.put _ (some 196) _ = _
          simp only [Act.put, List.setIfInBounds_toArray, List.set_cons_zero, List.set_cons_succ, i64_w, i32_w]
          rfl
        refine pure_ (i := 16) (N := some 197) (v := ?_) (a' := ?_) #[true, true, true, true, true, true, true, true, true, true, true, true, true, true, true, true, true, false, false, false, false, false] rfl rfl (by kernel_rfl) (fun _ _ _ h => h) (Or.inl ⟨by rfl, ?_⟩) ?_ ?_
        rotate_left
        · intro w'
          go_simp
          with_reducible rfl
        rotate_left
        · simp only [Act.put, List.setIfInBounds_toArray, List.set_cons_zero, List.set_cons_succ, i64_w, i32_w]
          rfl
        refine pure_ (i := 17) (N := some 198) (v := ?_) (a' := ?_) #[true, true, true, true, true, true, true, true, true, true, true, true, true, true, true, true, true, true, false, false, false, false] rfl rfl (by kernel_rfl) (fun _ _ _ h => h) (Or.inl ⟨by rfl, ?_⟩) ?_ ?_
        rotate_left
        · intro w'
          go_simp
          with_reducible rfl
        rotate_left
        · simp only [Act.put, List.setIfInBounds_toArray, List.set_cons_zero, List.set_cons_succ, i64_w, i32_w]
          rfl
        refine one_ (i := 18) (N := none) #[true, true, true, true, true, true, true, true, true, true, true, true, true, true, true, true, true, true, true, false, false, false] rfl rfl (by kernel_rfl) (by decide) (fun K hK => ?_)
        obtain ⟨pa, hA, r0, r1, r2, r3, r4, r5⟩ := at_T59 (Kd.R_reads' HOd.out).2.2 k HK.out.1 (by rw [List.length_map]; exact HK.out.2)
        cases hA
        rw [add_plain] at r0 r1 r2 r3 r4 r5
        have rf := row59_frozen HOd.out (by rw [List.length_map]; exact HTL.out)
        refine skip_ (w1 := ?_) (by rfl) rfl ?_ ?_
        rotate_left
        · go_simp
          rfl
        refine hK.out _ _ ⟨far2 (hHeld.1) HNE.out.2.2.2.1.symm, far2 (hHeld.2.1) HNE.out.2.1.symm, far2 (hHeld.2.2.1) HNE.out.2.1.symm, far2 (hHeld.2.2.2.1) HNE.out.2.1.symm, far2 (hHeld.2.2.2.2) HNE.out.2.1.symm⟩ (fun hHeld => ?_)
        clear hK K
        refine pure_ (i := 19) (N := some 199) (v := ?_) (a' := ?_) #[true, true, true, true, true, true, true, true, true, true, true, true, true, true, true, true, true, true, true, true, false, false] rfl rfl (by kernel_rfl) (fun _ _ _ h => h) (Or.inl ⟨by rfl, ?_⟩) ?_ ?_
        rotate_left
        · intro w'
          go_simp
          with_reducible rfl
        rotate_left
        · simp only [Act.put, List.setIfInBounds_toArray, List.set_cons_zero, List.set_cons_succ, i64_w, i32_w]
          rfl
        refine pure_ (i := 20) (N := some 200) (v := ?_) (a' := ?_) #[true, true, true, true, true, true, true, true, true, true, true, true, true, true, true, true, true, true, true, true, true, false] rfl rfl (by kernel_rfl) (fun _ _ _ h => h) (Or.inl ⟨by rfl, ?_⟩) ?_ ?_
        rotate_left
        · intro w'
          go_simp
          with_reducible rfl
        rotate_left
        · simp only [Act.put, List.setIfInBounds_toArray, List.set_cons_zero, List.set_cons_succ, i64_w, i32_w]
          rfl
        refine last_ (i := 21) (N := none) #[true, true, true, true, true, true, true, true, true, true, true, true, true, true, true, true, true, true, true, true, true, true] rfl rfl (by kernel_rfl) (by decide) (fun K hK => ?_)
        have HP9 := put_two HOd.out H3d.out k HK.out.1 HK.out.2 2 lo hi ⟨t.f0, t.f1, ⟨lo, t.f2.f1⟩, ⟨t.f3.f0, t.f3.f1⟩⟩ ⟨t.f0, t.f1, ⟨lo, hi⟩, ⟨t.f3.f0, t.f3.f1⟩⟩ (by decide) (by rw [show rd_T59 (ts.map toT) k = toT t from HET.out]; rfl) rfl
        have HO9 := Aside0.mk HP9.1
        have H39 := Aside0.mk HP9.2
        clear HP9 r0 r1 r2 r3 r4 r5 rf
        have HB9 := Aside0.mk (below_set (j := k.toNat * 6 + 2 + 1) (v := .int .i64 hi) (below_set (j := k.toNat * 6 + 2) (v := .int .i64 lo) HBd.out HNE.out.2.2.2.2) HNE.out.2.2.2.2)
        have BK9 := Aside0.mk (blk_far (p := ⟨g2, k.toNat * 6 + 2 + 1, none⟩) (blk_far (p := ⟨g2, k.toNat * 6 + 2, none⟩) BKd.out HNE.out.1 (.int .i64 lo)) HNE.out.1 (.int .i64 hi))
        have BD9 := Aside0.mk (blk_far (p := ⟨g2, k.toNat * 6 + 2 + 1, none⟩) (blk_far (p := ⟨g2, k.toNat * 6 + 2, none⟩) BDd.out HNE.out.2.1 (.int .i64 lo)) HNE.out.2.1 (.int .i64 hi))
        have BO9 := Aside0.mk (blk_far (p := ⟨g2, k.toNat * 6 + 2 + 1, none⟩) (blk_far (p := ⟨g2, k.toNat * 6 + 2, none⟩) BOd.out HNE.out.2.2.1 (.int .i64 lo)) HNE.out.2.2.1 (.int .i64 hi))
        have BY9 := Aside0.mk (blk_far (p := ⟨g2, k.toNat * 6 + 2 + 1, none⟩) (blk_far (p := ⟨g2, k.toNat * 6 + 2, none⟩) BYd.out HNE.out.2.2.2.1 (.int .i64 lo)) HNE.out.2.2.2.1 (.int .i64 hi))
        generalize (w8.setCell ⟨g2, k.toNat * 6 + 2, none⟩ (.int .i64 lo)).setCell ⟨g2, k.toNat * 6 + 2 + 1, none⟩ (.int .i64 hi) = w9 at HB9 BK9 BD9 BO9 BY9 HO9 H39 hHeld ⊢
        clear HBd BKd BDd BOd BYd HOd H3d
        have HBd := HB9
        have BKd := BK9
        have BDd := BD9
        have BOd := BO9
        have BYd := BY9
        clear HB9 BK9 BD9 BO9 BY9
        obtain ⟨pa, hA, r0, r1, r2, r3, r4, r5⟩ := at_T59 (Kd.R_reads' HO9.out).2.2 k HK.out.1 (by rw [List.length_set, List.length_map]; exact HK.out.2)
        cases hA
        rw [add_plain] at r0 r1 r2 r3 r4 r5
        have rf := row59_frozen HO9.out (by rw [List.length_set, List.length_map]; exact HTL.out)
        refine skip_ (w1 := ?_) (by rfl) rfl ?_ ?_
        rotate_left
        · go_simp
          rfl
        refine hK.out _ _ ?_
        clear hK K
        refine done_ (by kernel_rfl) ?_
        have HPf := put_two HO9.out H39.out k HK.out.1 HK.out.2 4 lo' hi' ⟨t.f0, t.f1, ⟨lo, hi⟩, ⟨lo', t.f3.f1⟩⟩ ⟨t.f0, t.f1, ⟨lo, hi⟩, ⟨lo', hi'⟩⟩ (by decide) (by rw [rd59_set HK.out.1 (by rw [List.length_map]; exact HK.out.2)]; rfl) rfl
        rw [List.set_set] at HPf
        have HOf := Aside0.mk HPf.1
        have H3f := Aside0.mk HPf.2
        have HBf := Aside0.mk (below_set (j := k.toNat * 6 + 4 + 1) (v := .int .i64 hi') (below_set (j := k.toNat * 6 + 4) (v := .int .i64 lo') HBd.out HNE.out.2.2.2.2) HNE.out.2.2.2.2)
        have BKf := Aside0.mk (blk_far (p := ⟨g2, k.toNat * 6 + 4 + 1, none⟩) (blk_far (p := ⟨g2, k.toNat * 6 + 4, none⟩) BKd.out HNE.out.1 (.int .i64 lo')) HNE.out.1 (.int .i64 hi'))
        have BDf := Aside0.mk (blk_far (p := ⟨g2, k.toNat * 6 + 4 + 1, none⟩) (blk_far (p := ⟨g2, k.toNat * 6 + 4, none⟩) BDd.out HNE.out.2.1 (.int .i64 lo')) HNE.out.2.1 (.int .i64 hi'))
        have BOf := Aside0.mk (blk_far (p := ⟨g2, k.toNat * 6 + 4 + 1, none⟩) (blk_far (p := ⟨g2, k.toNat * 6 + 4, none⟩) BOd.out HNE.out.2.2.1 (.int .i64 lo')) HNE.out.2.2.1 (.int .i64 hi'))
        have BYf := Aside0.mk (blk_far (p := ⟨g2, k.toNat * 6 + 4 + 1, none⟩) (blk_far (p := ⟨g2, k.toNat * 6 + 4, none⟩) BYd.out HNE.out.2.2.2.1 (.int .i64 lo')) HNE.out.2.2.2.1 (.int .i64 hi'))
        generalize (w9.setCell ⟨g2, k.toNat * 6 + 4, none⟩ (.int .i64 lo')).setCell ⟨g2, k.toNat * 6 + 4 + 1, none⟩ (.int .i64 hi') = wf at HBf BKf BDf BOf BYf HOf H3f ⊢
        clear HPf HO9 H39 HBd BKd BDd BOd BYd r0 r1 r2 r3 r4 r5 rf D2 D3 D4 D5 Y2
        obtain ⟨Y0, Y1, Y2, Y3⟩ := roll_cells BYf.out
        go_wp2_with fail
        obtain ⟨xs, hxs⟩ : ∃ xs, (ts.map toT).set k.toNat ⟨t.f0, t.f1, ⟨lo, hi⟩, ⟨lo', hi'⟩⟩ = xs := ⟨_, rfl⟩
        have hsn := HSN.out (by first | rfl | trivial)
        rw [hxs] at hsn HOf
        have HXL := Aside0.mk (show xs.length = ts.length by rw [← hxs, List.length_set, List.length_map])
        obtain ⟨L, hL⟩ : ∃ L, learnSpec p o xs (ns.map toN) = L := ⟨_, rfl⟩
        have HL := Aside0.mk hL
        have HL2 := Aside0.mk (show L.2 = if n < 2 then 0 else 9 by rw [← hL]; unfold learnSpec; rw [hsn]; by_cases hn2 : n < 2 <;> simp [hn2])
        clear hL hsn hxs
        refine (pLearn_calls p o (some ⟨g2, 0, none⟩) d2 xs B3 d3 (ns.map toN) _ _ HXL.out (List.length_map ..) _ (Kd.R_reads' HOf.out).2.2 (by rw [HXL.out]; exact (Kd.R_reads' HOf.out).2.1) (Kd.R_reads' H3f.out).2.2 (by rw [List.length_map]; exact (Kd.R_reads' H3f.out).2.1)).mono ?_
        rintro e10 w10 ⟨AY, cY, rfl, -, -, hb⟩
        rw [HL.out]
        obtain ⟨L1, L2⟩ := L
        have h2 := HL2.out
        simp only at h2 ⊢
        clear HL HL2 Y0 Y1 Y2 Y3
        have n_ := Aside0.mk (below_then HBf.out HBf.out.size hb)
        clear HBf
        have HBf := n_
        clear n_
        have n_ := Aside0.mk ((hb.block _ (blk_lt BKf.out)).trans BKf.out)
        clear BKf
        have BKf := n_
        clear n_
        have n_ := Aside0.mk ((hb.block _ (blk_lt BDf.out)).trans BDf.out)
        clear BDf
        have BDf := n_
        clear n_
        have n_ := Aside0.mk ((hb.block _ (blk_lt BOf.out)).trans BOf.out)
        clear BOf
        have BOf := n_
        clear n_
        clear hb
        by_cases hn2 : n < 2
        ·
          rw [if_pos hn2] at h2
          subst h2
          have tn : decide (n < 2) = true := decide_eq_true hn2
          clear hn2
          go_wp2
          go_roundg (gk - 1)
          case measure => have := HN.out; have := HN4.out; omega
          case rel => exact ⟨n + 1, by first | rfl | rw [HW.out], ⟨by have := HN.out; have := HN4.out; omega⟩, HBf, BKf, BDf, BOf⟩
        ·
          rw [if_neg hn2] at h2
          subst h2
          have tn : decide (n < 2) = false := decide_eq_false hn2
          clear hn2
          go_wp2
          go_roundg (gk - 1)
          case measure => have := HN.out; have := HN4.out; omega
          case rel => exact ⟨n + 1, by first | rfl | rw [HW.out], ⟨by have := HN.out; have := HN4.out; omega⟩, HBf, BKf, BDf, BOf⟩
end Go.Proofs.Ythpheknchikodaa.P
