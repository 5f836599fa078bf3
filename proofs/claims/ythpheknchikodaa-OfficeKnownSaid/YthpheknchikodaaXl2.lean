/- Contracts of functions that the laws reach, part Xl2. Conditions: each theorem names its own. -/
import Derived.Test.YthpheknchikodaaXl1
import Derived.Test.YthpheknchikodaaXb14
/- The walk of the law OfficeKnown: it answers true. Conditions: none beyond the roll's being readable. -/
namespace Go.Proofs.Ythpheknchikodaa.P
open Go.RowKit Go.Proofs.YthpheknchikodaaW.PrintWords Go.Proofs.YthpheknchikodaaW.PrintLast
attribute [local go_sem] max2_int min2_int max_two min_two
set_option linter.unusedVariables false
set_option linter.unusedSimpArgs false

theorem sound_nine {p o : Int} {ts : List S59} {ns : List S109} (h : rollFault p o ts ns = 0) (hs : ¬ soundOf p o ts ns = 0) : soundOf p o ts ns = 9 := by
  unfold soundOf at hs ⊢
  rw [if_pos h] at hs ⊢
  cases c : (firstClash 0 ts).isSome
  · rw [c] at hs; exact absurd rfl hs
  · rfl
theorem narrow_one {ts : List S54} {k : Int} {t x' : S54} (ht : rd_T54 ts k = t) (h0 : 0 ≤ k) (hk : k < (ts.length : Int)) (h : x'.f1 = t.f1 ∧ t.f2.f0 ≤ x'.f2.f0 ∧ x'.f2.f1 ≤ t.f2.f1 ∧ t.f3.f0 ≤ x'.f3.f0 ∧ x'.f3.f1 ≤ t.f3.f1) : Narrow (ts.map toT) ((ts.set k.toNat x').map toT) := by
  rw [List.map_set]
  refine narrow_set (by rw [List.length_map]; omega) ?_
  have e : tAt (ts.map toT) k.toNat = toT t := by
    unfold tAt
    rw [← ht]
    unfold rd_T54
    have h' : k.toNat < ts.length := by omega
    simp [List.getD_eq_getElem?_getD, h']
  rw [e]
  exact h
theorem tAt_rd' (ts : List S54) (i : Int) (h : i.toNat < ts.length) : tAt (ts.map toT) i.toNat = toT (rd_T54 ts i) := by
  unfold tAt rd_T54
  simp [List.getD_eq_getElem?_getD, h]
theorem row_frozen {W : World} {base g n cap : Nat} {ok : Nat → Prop} {xs : List S54} (h : Kd.R k54 54 W base ok (.slice (some ⟨g, 0, none⟩) n cap) xs) (hn : 0 < xs.length) (j : Nat) : W.frozen? ⟨g, j, none⟩ = false := by
  obtain ⟨g', c', e, -, -, cs, hc⟩ := Kd.R_form h hn
  injection e with e1
  injection e1 with e1
  injection e1 with e1
  subst e1
  exact blk_frozen hc j
/-- x: the roll with a narrower term, or one term more. -/
def XOk (w wc : World) (p o : Int) (gx : Nat) (ts : List S54) (A2 : Option Addr) (c2 : Nat) (A3 : Option Addr) (c3 : Nat) (ns : List S88) : Prop := ∃ (A : Option Addr) (c : Nat) (xs : List S54), wc.heap[gx]? = some (.cells #[.int .i64 p, .int .i64 o, .slice A xs.length c, .slice A3 ns.length c3] 25 (0, 0)) ∧ Kd.C k54 wc A xs.length xs ∧ xs.length ≤ c ∧ xs.length ≤ 41 ∧ Narrow (ts.map toT) (xs.map toT) ∧ Below w.heap.size w wc ∧ wc.heap[w.heap.size]? = some (.cells #[.int .i64 p, .int .i64 o, .slice A2 ts.length c2, .slice A3 ns.length c3] 25 (0, 0))
set_option maxHeartbeats 4000000 in
set_option maxRecDepth 100000 in
theorem OfficeKnown_calls (p o : Int) (A2 : Option Addr) (c2 : Nat) (ts : List S54) (A3 : Option Addr) (c3 : Nat) (ns : List S88) (a1 a2 a3 : Int) (more : S54) (w : World) (hI : RIn w A2 c2 ts A3 c3 ns) (ha1 : 0 ≤ a1 ∧ a1 ≤ 255) (ha2 : 0 ≤ a2 ∧ a2 ≤ 255) (ha3 : 0 ≤ a3 ∧ a3 ≤ 65535) :
    Calls Try.prog 7 #[.agg #[.int .i64 p, .int .i64 o, .slice A2 ts.length c2, .slice A3 ns.length c3], .int .u8 a1, .int .u8 a2, .int .u16 a3, .agg #[.int .i64 more.f0, .int .i64 more.f1, .int .i64 more.f2.f0, .int .i64 more.f2.f1, .int .i64 more.f3.f0, .int .i64 more.f3.f1]] w fun e w' => e = .returned (.bool true) ∧ Below w.heap.size w w' := by
  have hu25 := Try.underlying25
  have hu54 := Try.underlying54
  have hu52 := Try.underlying52
  have hu22 := Try.underlying22
  have HB := Aside0.mk (below_alloc (below_alloc (Below.refl w.heap.size w) (.cells #[.int .i64 p, .int .i64 o, .slice A2 ts.length c2, .slice A3 ns.length c3] 25)) (.cells #[.int .i64 more.f0, .int .i64 more.f1, .int .i64 more.f2.f0, .int .i64 more.f2.f1, .int .i64 more.f3.f0, .int .i64 more.f3.f1] 54))
  have HIW := Aside0.mk hI
  have BK := Aside0.mk (blk_alloc (blk_new w (.cells #[.int .i64 p, .int .i64 o, .slice A2 ts.length c2, .slice A3 ns.length c3] 25)) (.cells #[.int .i64 more.f0, .int .i64 more.f1, .int .i64 more.f2.f0, .int .i64 more.f2.f1, .int .i64 more.f3.f0, .int .i64 more.f3.f1] 54))
  have BM := Aside0.mk (show ((w.alloc (.cells #[.int .i64 p, .int .i64 o, .slice A2 ts.length c2, .slice A3 ns.length c3] 25)).alloc (.cells #[.int .i64 more.f0, .int .i64 more.f1, .int .i64 more.f2.f0, .int .i64 more.f2.f1, .int .i64 more.f3.f0, .int .i64 more.f3.f1] 54)).heap[w.heap.size + 1]? = some (.cells #[.int .i64 more.f0, .int .i64 more.f1, .int .i64 more.f2.f0, .int .i64 more.f2.f1, .int .i64 more.f3.f0, .int .i64 more.f3.f1] 54 (0, 0)) from by have h := blk_new (w.alloc (.cells #[.int .i64 p, .int .i64 o, .slice A2 ts.length c2, .slice A3 ns.length c3] 25)) (.cells #[.int .i64 more.f0, .int .i64 more.f1, .int .i64 more.f2.f0, .int .i64 more.f2.f1, .int .i64 more.f3.f0, .int .i64 more.f3.f1] 54); rw [World.size_alloc] at h; exact h)
  have HA1 := Aside0.mk ha1
  have HA2 := Aside0.mk ha2
  have HA3 := Aside0.mk ha3
  clear hI ha1 ha2 ha3
  obtain ⟨x0, x1, x2, x3⟩ := roll_cells BK.out
  go_enter Try.func7, Try.ntmps7
  go_wp2_with fail
  cases hrd : readyB p o ts ns
  case false =>
    refine (ready_calls p o A2 c2 ts A3 c3 ns _ (HIW.out.below HB.out)).mono ?_
    rintro e w1 ⟨rfl, hb⟩
    rw [hrd]
    have n_ := Aside0.mk (below_then HB.out HB.out.size hb)
    clear HB
    have HB := n_
    clear n_
    clear hb
    go_wp2_with fail
    refine (awake_calls _).mono ?_
    rintro e wz ⟨rfl, hb⟩
    have HBz := Aside0.mk (below_then HB.out HB.out.size hb)
    clear hb
    go_wp2
    go_ret
    exact ⟨rfl, HBz.out⟩
  have hrd' := hrd
  unfold readyB at hrd'
  rw [Bool.and_eq_true] at hrd'
  obtain ⟨hts, hns, hsz⟩ := thin_facts hrd'.1
  have HNS := Aside0.mk hns
  have HSZ := Aside0.mk hsz
  have HFA := Aside0.mk (show rollFault p o (ts.map toT) (ns.map toN) = 0 from of_decide_eq_true hrd'.2)
  have HRO := Aside0.mk (rollOk_of HFA.out)
  have HTS := Aside0.mk (show ts.length ≤ 40 by have h := HRO.out.len; rw [List.length_map] at h; exact h)
  clear hts hns hsz hrd'
  refine (ready_calls p o A2 c2 ts A3 c3 ns _ (HIW.out.below HB.out)).mono ?_
  rintro e w1 ⟨rfl, hb⟩
  rw [hrd]
  clear hrd x0 x1 x2 x3
  have n_ := Aside0.mk (below_then HB.out HB.out.size hb)
  clear HB
  have HB := n_
  clear n_
  have n_ := Aside0.mk ((hb.block _ (blk_lt BK.out)).trans BK.out)
  clear BK
  have BK := n_
  clear n_
  have n_ := Aside0.mk ((hb.block _ (blk_lt BM.out)).trans BM.out)
  clear BM
  have BM := n_
  clear n_
  clear hb
  obtain ⟨x0, x1, x2, x3⟩ := roll_cells BK.out
  by_cases htl : ts.length = 0
  case pos =>
    have e1 : ((ts.length : Int) == 0) = true := by rw [htl]; rfl
    have e2 : (ts.length == 0) = true := by rw [htl]; rfl
    clear htl
    go_wp2_with fail
    refine (awake_calls _).mono ?_
    rintro e wz ⟨rfl, hb⟩
    have HBz := Aside0.mk (below_then HB.out HB.out.size hb)
    clear hb
    go_wp2
    go_ret
    exact ⟨rfl, HBz.out⟩
  have e1 : ((ts.length : Int) == 0) = false := beq_eq_false_iff_ne.mpr (by omega)
  have e1b : ((ts.length : Int) = 0) = False := eq_false (by omega)
  have e1c : (ts.length = 0) = False := eq_false htl
  have e1d : (ts = []) = False := eq_false (fun h => htl (by rw [h]; rfl))
  have HTL := Aside0.mk (show 0 < (ts.length : Int) by omega)
  clear htl
  have hsz1 := blk_lt BK.out
  have hsm := blk_lt BM.out
  have d1 : w.heap.size ≠ w1.heap.size := by omega
  have d2 : w1.heap.size ≠ w.heap.size := by omega
  have d3 : w.heap.size ≠ w1.heap.size + 1 := by omega
  have d4 : w1.heap.size + 1 ≠ w.heap.size := by omega
  clear hsz1 hsm
  have HBx := Aside0.mk (below_alloc HB.out (.cells #[.int .i64 p, .int .i64 o, .slice A2 ts.length c2, .slice A3 ns.length c3] 25))
  have BKx := Aside0.mk (blk_alloc BK.out (.cells #[.int .i64 p, .int .i64 o, .slice A2 ts.length c2, .slice A3 ns.length c3] 25))
  have BMx := Aside0.mk (blk_alloc BM.out (.cells #[.int .i64 p, .int .i64 o, .slice A2 ts.length c2, .slice A3 ns.length c3] 25))
  have BXx := Aside0.mk (blk_new w1 (.cells #[.int .i64 p, .int .i64 o, .slice A2 ts.length c2, .slice A3 ns.length c3] 25))
  have y2 := pw_cell_below (below_alloc (below_alloc (Below.refl w1.heap.size w1) (.cells #[.int .i64 p, .int .i64 o, .slice A2 ts.length c2, .slice A3 ns.length c3] 25)) (.cells #[] 54)) x2
  have HNM := Aside0.mk (show w.heap.size + 1 < w1.heap.size from blk_lt BM.out)
  go_wp2_with ((with_reducible refine gate_builtin (b := .append) (xs := #[.tmp 29, .tmp 31]) rfl ?_); at_builtin; refine Kd.R_append_rows k54 (w0 := w) w.heap.size rfl (.tmp 29) (.tmp 31) 22 54 (.agg #[(.int .i64 0), (.int .i64 0), (.int .i64 0), (.int .i64 0), (.int .i64 0), (.int .i64 0)]) 48 rfl Try.underlying22 info54_ rfl (by decide) (by omega) (.slice (some ⟨w1.heap.size + 1, 0, none⟩) 0 0) [] ts _ _ _ (fun _ => True) (fun _ => False) rfl rfl ?bO (HIW.out.below (below_alloc HBx.out (.cells #[] 54))).1 (fun x cs hK => M54_of_K x cs hK) (fun _ h => h.elim) ?bF ?bB ?bS ?bL ?_; (case bB => exact below_alloc HBx.out _); (case bF => exact (fun _ _ => trivial)); (case bO => have h := R_lit0_54 w.heap.size (w1.alloc (.cells #[.int .i64 p, .int .i64 o, .slice A2 ts.length c2, .slice A3 ns.length c3] 25)) (below_size HBx.out); rw [World.size_alloc] at h; exact h); (case bS => exact below_size (below_alloc HBx.out _)); (case bL => have := HTS.out; simp; omega); intro v2 w2 ho hb hg hat; rw [List.nil_append] at ho; obtain ⟨g2, cap2, e2, hgb, hgl, hgt⟩ := Kd.R_form ho (by have := HTL.out; omega); subst e2; clear hgb hgl hgt; have BK2 := Aside0.mk (blk_grown (blk_alloc BKx.out (.cells #[] 54)) hg (by simp [Value.ownBlock]; exact d3)); have BM2 := Aside0.mk (blk_grown (blk_alloc BMx.out (.cells #[] 54)) hg (by have := HNM.out; simp [Value.ownBlock]; omega)); have BX2 := Aside0.mk (blk_grown (blk_alloc BXx.out (.cells #[] 54)) hg (by simp [Value.ownBlock])); have HO2 := Aside0.mk ho; have HB2 := Aside0.mk hb; have HAT := Aside0.mk hat; have kx2 := (blk_cell BX2.out 2).trans rfl; have kf2 := blk_frozen BX2.out 2; clear ho hb hg hat BKx BMx BXx HBx BK BM x0 x1 x2 x3 y2)
  have HG2 := Aside0.mk (show w1.heap.size < g2 by have h := HAT.out; simp [Value.ownBlock] at h; omega)
  have HSX := Aside0.mk (show w.heap.size ≤ w1.heap.size ∧ w.heap.size ≠ w1.heap.size by have := HNM.out; omega)
  have HB := Aside0.mk (below_set (j := 2) (v := .slice (some ⟨g2, 0, none⟩) ts.length cap2) HB2.out HSX.out.1)
  have BX := Aside0.mk (blk_put BX2.out 2 (.slice (some ⟨g2, 0, none⟩) ts.length cap2) rfl)
  have BK := Aside0.mk (blk_far (p := ⟨w1.heap.size, 2, none⟩) BK2.out HSX.out.2 (.slice (some ⟨g2, 0, none⟩) ts.length cap2))
  have BM := Aside0.mk (blk_far (p := ⟨w1.heap.size, 2, none⟩) BM2.out (by have := HNM.out; simp; omega) (.slice (some ⟨g2, 0, none⟩) ts.length cap2))
  have HO := Aside0.mk (Kd.R_set HO2.out BX2.out (by decide) 2 (.slice (some ⟨g2, 0, none⟩) ts.length cap2))
  generalize w2.setCell ⟨w1.heap.size, 2, none⟩ (.slice (some ⟨g2, 0, none⟩) ts.length cap2) = w3 at HB BX BK BM HO ⊢
  clear HB2 BX2 BK2 BM2 HO2 HAT kx2 kf2 d1 d2 d3 d4
  obtain ⟨k0, k1, k2, k3⟩ := roll_cells (show w3.heap[w1.heap.size]? = some (.cells #[.int .i64 p, .int .i64 o, .slice (some ⟨g2, 0, none⟩) ts.length cap2, .slice A3 ns.length c3] 25 (0, 0)) from BX.out)
  have ha2 := HA2.out
  have hw2 : wrap64 a2 = a2 := by unfold wrap64; omega
  have hw2' : IntKind.i64.wrap a2 = a2 := IntWalk.i64_in _ (by omega)
  obtain ⟨k, e3⟩ : ∃ k, Int.tmod a2 (ts.length : Int) = k := ⟨_, rfl⟩
  have HK := Aside0.mk (show 0 ≤ k ∧ k < (ts.length : Int) by rw [← e3]; exact ⟨Int.tmod_nonneg _ ha2.1, Int.tmod_lt_of_pos _ HTL.out⟩)
  have k0' := eq_true HK.out.1
  have k1' := eq_true HK.out.2
  clear ha2
  have ha1 := HA1.out
  obtain ⟨q, e4⟩ : ∃ q, Int.tmod a1 5 = q := ⟨_, rfl⟩
  have HQ := Aside0.mk (show 0 ≤ q ∧ q < 5 by rw [← e4]; exact ⟨Int.tmod_nonneg _ ha1.1, Int.tmod_lt_of_pos _ (by decide)⟩)
  clear ha1
  go_quiet (fail)
  have HBn := fun n => Aside0.mk (pw_below_drewN HB.out n)
  go_upto_block 0 with fail
  clear e1 e1b e1c e1d hw2 hw2' e3 k0 k1 k2 k3
  go_cut [] (fun wc => XOk w wc p o w1.heap.size ts A2 c2 A3 c3 ns)
  case first =>
    generalize hWq : World.drewN w3 _ = wq
    have HB := Aside0.mk (show Below w.heap.size w wq by rw [← hWq]; exact pw_below_drewN HB.out _)
    have BX := Aside0.mk (show wq.heap[w1.heap.size]? = some (.cells #[.int .i64 p, .int .i64 o, .slice (some ⟨g2, 0, none⟩) ts.length cap2, .slice A3 ns.length c3] 25 (0, 0)) by rw [← hWq]; exact BX.out)
    have BK := Aside0.mk (show wq.heap[w.heap.size]? = some (.cells #[.int .i64 p, .int .i64 o, .slice A2 ts.length c2, .slice A3 ns.length c3] 25 (0, 0)) by rw [← hWq]; exact BK.out)
    have BM := Aside0.mk (show wq.heap[w.heap.size + 1]? = some (.cells #[.int .i64 more.f0, .int .i64 more.f1, .int .i64 more.f2.f0, .int .i64 more.f2.f1, .int .i64 more.f3.f0, .int .i64 more.f3.f1] 54 (0, 0)) by rw [← hWq]; exact BM.out)
    have HO := Aside0.mk (show Kd.R k54 54 wq w.heap.size (fun _ => True) (.slice (some ⟨g2, 0, none⟩) ts.length cap2) ts by rw [← hWq]; exact Kd.R_drewN HO.out _)
    clear hWq
    clear HBn
    obtain ⟨ad, hA, y0, y1, y2, y3, y4, y5⟩ := at_T54 (Kd.R_reads' HO.out).2.2 k HK.out.1 HK.out.2
    cases hA
    rw [add_plain] at y0 y1 y2 y3 y4 y5
    have htk := HRO.out.ok k.toNat (by rw [List.length_map]; have := HK.out; omega)
    rw [tAt_rd' ts k (by have := HK.out; omega)] at htk
    obtain ⟨t, ht⟩ : ∃ t, rd_T54 ts k = t := ⟨_, rfl⟩
    rw [ht] at y0 y1 y2 y3 y4 y5 htk
    simp only [toT] at htk
    have HT := Aside0.mk ht
    have HTK := Aside0.mk htk
    clear ht htk
    have hq5 : q = 0 ∨ q = 1 ∨ q = 2 ∨ q = 3 ∨ q = 4 := by have := HQ.out; omega
    rcases hq5 with rfl | rfl | rfl | rfl | rfl
    ·
      have ha3 := HA3.out
      have htk := HTK.out
      have w3' : wrap64 a3 = a3 := by unfold wrap64; omega
      have w4' : wrap64 (t.f2.f0 + a3) = t.f2.f0 + a3 := by unfold wrap64; omega
      clear ha3 htk
      obtain ⟨v, hv, hvr⟩ : ∃ v, (if t.f2.f0 + a3 < t.f2.f1 then t.f2.f0 + a3 else t.f2.f1) = v ∧ t.f2.f0 ≤ (if t.f2.f0 + a3 < t.f2.f1 then t.f2.f0 + a3 else t.f2.f1) ∧ (if t.f2.f0 + a3 < t.f2.f1 then t.f2.f0 + a3 else t.f2.f1) ≤ t.f2.f1 := ⟨_, rfl, by have := HTK.out; have := HA3.out; split <;> omega⟩
      rw [hv] at hvr
      have HV := Aside0.mk hv
      have HVR := Aside0.mk hvr
      clear hvr
      go_wp2
      have HFR := Aside0.mk (fun j : Nat => row_frozen HO.out (by have := HTL.out; omega) j)
      have HBd := Aside0.mk (below_drew1 HB.out)
      have HOd := Aside0.mk (Kd.R_drew HO.out)
      refine start_ (n := 19) (S := fun w' => w'.cell? ⟨g2, k.toNat * 6 + 3, none⟩ = some (.int .i64 t.f2.f1) ∧ w'.cell? ⟨g2, k.toNat * 6 + 2, none⟩ = some (.int .i64 t.f2.f0)) (ds := [18]) #[false, false, false, false, false, false, false, false, false, false, false, false, false, false, false, false, false, false, false] (by kernel_rfl) rfl rfl ⟨y3, y2⟩ (fun hHeld => ?_)
      have BXd := Aside0.mk (show wq.drew.heap[w1.heap.size]? = some (.cells #[.int .i64 p, .int .i64 o, .slice (some ⟨g2, 0, none⟩) ts.length cap2, .slice A3 ns.length c3] 25 (0, 0)) from BX.out)
      have BKd := Aside0.mk (show wq.drew.heap[w.heap.size]? = some (.cells #[.int .i64 p, .int .i64 o, .slice A2 ts.length c2, .slice A3 ns.length c3] 25 (0, 0)) from BK.out)
      have HFR := Aside0.mk (show ∀ j : Nat, wq.drew.frozen? ⟨g2, j, none⟩ = false from HFR.out)
      generalize wq.drew = wd at HBd HOd BXd BKd HFR hHeld ⊢
      refine pure_ (i := 0) (N := some 53) (v := ?_) (a' := ?_) #[true, false, false, false, false, false, false, false, false, false, false, false, false, false, false, false, false, false, false] rfl rfl (by kernel_rfl) (fun _ _ _ h => h) (Or.inl ⟨by rfl, ?_⟩) ?_ ?_
      rotate_left
      · intro w'
        go_simp
        with_reducible rfl
      rotate_left
      · simp only [Act.put, List.setIfInBounds_toArray, List.set_cons_zero, List.set_cons_succ, i64_w, i32_w]
        rfl
      refine pure_ (i := 1) (N := some 54) (v := ?_) (a' := ?_) #[true, true, false, false, false, false, false, false, false, false, false, false, false, false, false, false, false, false, false] rfl rfl (by kernel_rfl) (fun _ _ _ h => h) (Or.inl ⟨by rfl, ?_⟩) ?_ ?_
      rotate_left
      · intro w'
        go_simp
        with_reducible rfl
      rotate_left
      · simp only [Act.put, List.setIfInBounds_toArray, List.set_cons_zero, List.set_cons_succ, i64_w, i32_w]
        rfl
      refine pure_ (i := 2) (N := some 55) (v := ?_) (a' := ?_) #[true, true, true, false, false, false, false, false, false, false, false, false, false, false, false, false, false, false, false] rfl rfl (by kernel_rfl) (fun _ _ _ h => h) (Or.inl ⟨by rfl, ?_⟩) ?_ ?_
      rotate_left
      · intro w'
        go_simp
        with_reducible rfl
      rotate_left
      · simp only [Act.put, List.setIfInBounds_toArray, List.set_cons_zero, List.set_cons_succ, i64_w, i32_w]
        rfl
      refine pure_ (i := 3) (N := some 56) (v := ?_) (a' := ?_) #[true, true, true, true, false, false, false, false, false, false, false, false, false, false, false, false, false, false, false] rfl rfl (by kernel_rfl) (fun _ _ _ h => h) (Or.inl ⟨by rfl, ?_⟩) ?_ ?_
      rotate_left
      · intro w'
        go_simp
        with_reducible rfl
      rotate_left
      · simp only [Act.put, List.setIfInBounds_toArray, List.set_cons_zero, List.set_cons_succ, i64_w, i32_w]
        rfl
      refine pure_ (i := 4) (N := some 57) (v := ?_) (a' := ?_) #[true, true, true, true, true, false, false, false, false, false, false, false, false, false, false, false, false, false, false] rfl rfl (by kernel_rfl) (fun _ _ _ h => h) (Or.inl ⟨by rfl, ?_⟩) ?_ ?_
      rotate_left
      · intro w'
        go_simp
        with_reducible rfl
      rotate_left
      · simp only [Act.put, List.setIfInBounds_toArray, List.set_cons_zero, List.set_cons_succ, i64_w, i32_w]
        rfl
      refine pure_ (i := 6) (N := some 59) (v := ?_) (a' := ?_) #[true, true, true, true, true, false, true, false, false, false, false, false, false, false, false, false, false, false, false] rfl rfl (by kernel_rfl) (fun _ _ _ h => h) (Or.inl ⟨by rfl, ?_⟩) ?_ ?_
      rotate_left
      · intro w'
        go_simp
        with_reducible rfl
      rotate_left
      · simp only [Act.put, List.setIfInBounds_toArray, List.set_cons_zero, List.set_cons_succ, i64_w, i32_w]
        rfl
      refine pure_ (i := 7) (N := some 60) (v := ?_) (a' := ?_) #[true, true, true, true, true, false, true, true, false, false, false, false, false, false, false, false, false, false, false] rfl rfl (by kernel_rfl) (fun _ _ _ h => h) (Or.inl ⟨by rfl, ?_⟩) ?_ ?_
      rotate_left
      · intro w'
        go_simp
        with_reducible rfl
      rotate_left
      · simp only [Act.put, List.setIfInBounds_toArray, List.set_cons_zero, List.set_cons_succ, i64_w, i32_w]
        rfl
      refine pure_ (i := 8) (N := some 61) (v := ?_) (a' := ?_) #[true, true, true, true, true, false, true, true, true, false, false, false, false, false, false, false, false, false, false] rfl rfl (by kernel_rfl) (fun _ _ _ h => h) (Or.inl ⟨by rfl, ?_⟩) ?_ ?_
      rotate_left
      · intro w'
        go_simp
        with_reducible rfl
      rotate_left
      · simp only [Act.put, List.setIfInBounds_toArray, List.set_cons_zero, List.set_cons_succ, i64_w, i32_w]
        rfl
      refine pure_ (i := 9) (N := some 62) (v := ?_) (a' := ?_) #[true, true, true, true, true, false, true, true, true, true, false, false, false, false, false, false, false, false, false] rfl rfl (by kernel_rfl) (fun _ _ _ h => h) (Or.inl ⟨by rfl, ?_⟩) ?_ ?_
      rotate_left
      · intro w'
        go_simp
        with_reducible rfl
      rotate_left
      · simp only [Act.put, List.setIfInBounds_toArray, List.set_cons_zero, List.set_cons_succ, i64_w, i32_w]
        rfl
      refine pure_ (i := 11) (N := some 64) (v := ?_) (a' := ?_) #[true, true, true, true, true, false, true, true, true, true, false, true, false, false, false, false, false, false, false] rfl rfl (by kernel_rfl) (fun _ _ _ h => h) (Or.inl ⟨by rfl, ?_⟩) ?_ ?_
      rotate_left
      · intro w'
        go_simp
        with_reducible rfl
      rotate_left
      · simp only [Act.put, List.setIfInBounds_toArray, List.set_cons_zero, List.set_cons_succ, i64_w, i32_w]
        rfl
      refine pure_ (i := 12) (N := some 65) (v := ?_) (a' := ?_) #[true, true, true, true, true, false, true, true, true, true, false, true, true, false, false, false, false, false, false] rfl rfl (by kernel_rfl) (fun _ _ _ h => h) (Or.inl ⟨by rfl, ?_⟩) ?_ ?_
      rotate_left
      · intro w'
        go_simp
        with_reducible rfl
      rotate_left
      · simp only [Act.put, List.setIfInBounds_toArray, List.set_cons_zero, List.set_cons_succ, i64_w, i32_w]
        rfl
      refine take_ (i := 5) (N := some 58) (v := ?_) (a' := ?_) #[true, true, true, true, true, true, true, true, true, true, false, true, true, false, false, false, false, false, false] rfl rfl (by kernel_rfl) (fun _ _ _ h => h) (Or.inl ⟨by rfl, ?_⟩) hHeld ?_ ?_
      rotate_left
      · rintro w' ⟨s0, s1⟩
        go_simp
        with_reducible rfl
      rotate_left
      · simp only [Act.put, List.setIfInBounds_toArray, List.set_cons_zero, List.set_cons_succ, i64_w, i32_w]
        rfl
      refine take_ (i := 10) (N := some 63) (v := ?_) (a' := ?_) #[true, true, true, true, true, true, true, true, true, true, true, true, true, false, false, false, false, false, false] rfl rfl (by kernel_rfl) (fun _ _ _ h => h) (Or.inl ⟨by rfl, ?_⟩) hHeld ?_ ?_
      rotate_left
      · rintro w' ⟨s0, s1⟩
        go_simp
        with_reducible rfl
      rotate_left
      · simp only [Act.put, List.setIfInBounds_toArray, List.set_cons_zero, List.set_cons_succ, i64_w, i32_w]
        rfl
      refine pure_ (i := 13) (N := some 66) (v := ?_) (a' := ?_) #[true, true, true, true, true, true, true, true, true, true, true, true, true, true, false, false, false, false, false] rfl rfl (by kernel_rfl) (fun _ _ _ h => h) (Or.inl ⟨by rfl, ?_⟩) ?_ ?_
      rotate_left
      · intro w'
        go_simp
        with_reducible rfl
      rotate_left
      · simp only [Act.put, List.setIfInBounds_toArray, List.set_cons_zero, List.set_cons_succ, i64_w, i32_w]
        rfl
      refine pure_ (i := 14) (N := some 67) (v := ?_) (a' := ?_) #[true, true, true, true, true, true, true, true, true, true, true, true, true, true, true, false, false, false, false] rfl rfl (by kernel_rfl) (fun _ _ _ h => h) (Or.inl ⟨by rfl, ?_⟩) ?_ ?_
      rotate_left
      · intro w'
        go_simp
        with_reducible rfl
      rotate_left
      · simp only [Act.put, List.setIfInBounds_toArray, List.set_cons_zero, List.set_cons_succ, i64_w, i32_w]
        rfl
      refine pure_ (i := 15) (N := some 68) (v := ?_) (a' := ?_) #[true, true, true, true, true, true, true, true, true, true, true, true, true, true, true, true, false, false, false] rfl rfl (by kernel_rfl) (fun _ _ _ h => h) (Or.inl ⟨by rfl, ?_⟩) ?_ ?_
      rotate_left
      · intro w'
        go_simp
        with_reducible rfl
      rotate_left
      · simp only [Act.put, List.setIfInBounds_toArray, List.set_cons_zero, List.set_cons_succ, i64_w, i32_w]
        rfl
      refine pure_ (i := 16) (N := some 69) (v := ?_) (a' := ?_) #[true, true, true, true, true, true, true, true, true, true, true, true, true, true, true, true, true, false, false] rfl rfl (by kernel_rfl) (fun _ _ _ h => h) (Or.inl ⟨by rfl, ?_⟩) ?_ ?_
      rotate_left
      · intro w'
        go_simp
        with_reducible rfl
      rotate_left
      · simp only [Act.put, List.setIfInBounds_toArray, List.set_cons_zero, List.set_cons_succ, i64_w, i32_w]
        rfl
      refine pure_ (i := 17) (N := some 70) (v := ?_) (a' := ?_) #[true, true, true, true, true, true, true, true, true, true, true, true, true, true, true, true, true, true, false] rfl rfl (by kernel_rfl) (fun _ _ _ h => h) (Or.inl ⟨by rfl, ?_⟩) ?_ ?_
      rotate_left
      · intro w'
        go_simp
        with_reducible rfl
      rotate_left
      · simp only [Act.put, List.setIfInBounds_toArray, List.set_cons_zero, List.set_cons_succ, i64_w, i32_w]
        rfl
      refine last_ (i := 18) (N := none) #[true, true, true, true, true, true, true, true, true, true, true, true, true, true, true, true, true, true, true] rfl rfl (by kernel_rfl) (by decide) (fun K hK => ?_)
      have cf := (show wd.cell? ⟨g2, k.toNat * 6 + 2, none⟩ = some (.int .i64 t.f2.f0) from hHeld.2)
      have ff := HFR.out (k.toNat * 6 + 2)
      refine skip_ (w1 := ?_) (by rfl) rfl ?_ ?_
      rotate_left
      · go_simp
        rfl
      refine hK.out _ _ ?_
      clear hK K
      refine done_ (by kernel_rfl) ?_
      have HNEW := Aside0.mk (row54_put HOd.out k HK.out.1 HK.out.2 2 v ⟨t.f0, t.f1, ⟨v, t.f2.f1⟩, t.f3⟩ (by decide) (by rw [HT.out]; rfl))
      have HN2 := Aside0.mk (narrow_one (x' := ⟨t.f0, t.f1, ⟨v, t.f2.f1⟩, t.f3⟩) HT.out HK.out.1 HK.out.2 (by have := HVR.out; have := HTK.out; refine ⟨rfl, ?_, ?_, ?_, ?_⟩ <;> simp only <;> omega))
      have HXO := Aside0.mk (show XOk w (wd.setCell ⟨g2, k.toNat * 6 + 2, none⟩ (.int .i64 v)) p o w1.heap.size ts A2 c2 A3 c3 ns from ⟨some ⟨g2, 0, none⟩, cap2, ts.set k.toNat ⟨t.f0, t.f1, ⟨v, t.f2.f1⟩, t.f3⟩, by rw [List.length_set]; exact blk_far BXd.out (by have := HG2.out; simp; omega) _, (Kd.R_reads' HNEW.out).2.2, by rw [List.length_set]; exact (Kd.R_reads' HNEW.out).2.1, by rw [List.length_set]; have := HTS.out; omega, HN2.out, below_set HBd.out (by have := HG2.out; have := HSX.out.1; omega), blk_far BKd.out (by have := HG2.out; have := HSX.out.1; simp; omega) _⟩)
      clear HNEW HN2 HVR HV HOd BXd BKd HFR HBd cf ff y0 y1 y2 y3 y4 y5 hHeld
      go_wp2
      go_meet
      case rel => exact HXO.out
    ·
      have ha3 := HA3.out
      have htk := HTK.out
      have w3' : wrap64 a3 = a3 := by unfold wrap64; omega
      have w4' : wrap64 (t.f2.f1 - a3) = t.f2.f1 - a3 := by unfold wrap64; omega
      clear ha3 htk
      obtain ⟨v, hv, hvr⟩ : ∃ v, (if t.f2.f0 < t.f2.f1 - a3 then t.f2.f1 - a3 else t.f2.f0) = v ∧ t.f2.f0 ≤ (if t.f2.f0 < t.f2.f1 - a3 then t.f2.f1 - a3 else t.f2.f0) ∧ (if t.f2.f0 < t.f2.f1 - a3 then t.f2.f1 - a3 else t.f2.f0) ≤ t.f2.f1 := ⟨_, rfl, by have := HTK.out; have := HA3.out; split <;> omega⟩
      rw [hv] at hvr
      have HV := Aside0.mk hv
      have HVR := Aside0.mk hvr
      clear hvr
      go_wp2
      have HFR := Aside0.mk (fun j : Nat => row_frozen HO.out (by have := HTL.out; omega) j)
      have HBd := Aside0.mk (below_drew1 HB.out)
      have HOd := Aside0.mk (Kd.R_drew HO.out)
      refine start_ (n := 19) (S := fun w' => w'.cell? ⟨g2, k.toNat * 6 + 2, none⟩ = some (.int .i64 t.f2.f0) ∧ w'.cell? ⟨g2, k.toNat * 6 + 3, none⟩ = some (.int .i64 t.f2.f1)) (ds := [18]) #[false, false, false, false, false, false, false, false, false, false, false, false, false, false, false, false, false, false, false] (by kernel_rfl) rfl rfl ⟨y2, y3⟩ (fun hHeld => ?_)
      have BXd := Aside0.mk (show wq.drew.heap[w1.heap.size]? = some (.cells #[.int .i64 p, .int .i64 o, .slice (some ⟨g2, 0, none⟩) ts.length cap2, .slice A3 ns.length c3] 25 (0, 0)) from BX.out)
      have BKd := Aside0.mk (show wq.drew.heap[w.heap.size]? = some (.cells #[.int .i64 p, .int .i64 o, .slice A2 ts.length c2, .slice A3 ns.length c3] 25 (0, 0)) from BK.out)
      have HFR := Aside0.mk (show ∀ j : Nat, wq.drew.frozen? ⟨g2, j, none⟩ = false from HFR.out)
      generalize wq.drew = wd at HBd HOd BXd BKd HFR hHeld ⊢
      refine pure_ (i := 0) (N := some 73) (v := ?_) (a' := ?_) #[true, false, false, false, false, false, false, false, false, false, false, false, false, false, false, false, false, false, false] rfl rfl (by kernel_rfl) (fun _ _ _ h => h) (Or.inl ⟨by rfl, ?_⟩) ?_ ?_
      rotate_left
      · intro w'
        go_simp
        with_reducible rfl
      rotate_left
      · simp only [Act.put, List.setIfInBounds_toArray, List.set_cons_zero, List.set_cons_succ, i64_w, i32_w]
        rfl
      refine pure_ (i := 1) (N := some 74) (v := ?_) (a' := ?_) #[true, true, false, false, false, false, false, false, false, false, false, false, false, false, false, false, false, false, false] rfl rfl (by kernel_rfl) (fun _ _ _ h => h) (Or.inl ⟨by rfl, ?_⟩) ?_ ?_
      rotate_left
      · intro w'
        go_simp
        with_reducible rfl
      rotate_left
      · simp only [Act.put, List.setIfInBounds_toArray, List.set_cons_zero, List.set_cons_succ, i64_w, i32_w]
        rfl
      refine pure_ (i := 2) (N := some 75) (v := ?_) (a' := ?_) #[true, true, true, false, false, false, false, false, false, false, false, false, false, false, false, false, false, false, false] rfl rfl (by kernel_rfl) (fun _ _ _ h => h) (Or.inl ⟨by rfl, ?_⟩) ?_ ?_
      rotate_left
      · intro w'
        go_simp
        with_reducible rfl
      rotate_left
      · simp only [Act.put, List.setIfInBounds_toArray, List.set_cons_zero, List.set_cons_succ, i64_w, i32_w]
        rfl
      refine pure_ (i := 3) (N := some 76) (v := ?_) (a' := ?_) #[true, true, true, true, false, false, false, false, false, false, false, false, false, false, false, false, false, false, false] rfl rfl (by kernel_rfl) (fun _ _ _ h => h) (Or.inl ⟨by rfl, ?_⟩) ?_ ?_
      rotate_left
      · intro w'
        go_simp
        with_reducible rfl
      rotate_left
      · simp only [Act.put, List.setIfInBounds_toArray, List.set_cons_zero, List.set_cons_succ, i64_w, i32_w]
        rfl
      refine pure_ (i := 4) (N := some 77) (v := ?_) (a' := ?_) #[true, true, true, true, true, false, false, false, false, false, false, false, false, false, false, false, false, false, false] rfl rfl (by kernel_rfl) (fun _ _ _ h => h) (Or.inl ⟨by rfl, ?_⟩) ?_ ?_
      rotate_left
      · intro w'
        go_simp
        with_reducible rfl
      rotate_left
      · simp only [Act.put, List.setIfInBounds_toArray, List.set_cons_zero, List.set_cons_succ, i64_w, i32_w]
        rfl
      refine pure_ (i := 6) (N := some 79) (v := ?_) (a' := ?_) #[true, true, true, true, true, false, true, false, false, false, false, false, false, false, false, false, false, false, false] rfl rfl (by kernel_rfl) (fun _ _ _ h => h) (Or.inl ⟨by rfl, ?_⟩) ?_ ?_
      rotate_left
      · intro w'
        go_simp
        with_reducible rfl
      rotate_left
      · simp only [Act.put, List.setIfInBounds_toArray, List.set_cons_zero, List.set_cons_succ, i64_w, i32_w]
        rfl
      refine pure_ (i := 7) (N := some 80) (v := ?_) (a' := ?_) #[true, true, true, true, true, false, true, true, false, false, false, false, false, false, false, false, false, false, false] rfl rfl (by kernel_rfl) (fun _ _ _ h => h) (Or.inl ⟨by rfl, ?_⟩) ?_ ?_
      rotate_left
      · intro w'
        go_simp
        with_reducible rfl
      rotate_left
      · simp only [Act.put, List.setIfInBounds_toArray, List.set_cons_zero, List.set_cons_succ, i64_w, i32_w]
        rfl
      refine pure_ (i := 8) (N := some 81) (v := ?_) (a' := ?_) #[true, true, true, true, true, false, true, true, true, false, false, false, false, false, false, false, false, false, false] rfl rfl (by kernel_rfl) (fun _ _ _ h => h) (Or.inl ⟨by rfl, ?_⟩) ?_ ?_
      rotate_left
      · intro w'
        go_simp
        with_reducible rfl
      rotate_left
      · simp only [Act.put, List.setIfInBounds_toArray, List.set_cons_zero, List.set_cons_succ, i64_w, i32_w]
        rfl
      refine pure_ (i := 9) (N := some 82) (v := ?_) (a' := ?_) #[true, true, true, true, true, false, true, true, true, true, false, false, false, false, false, false, false, false, false] rfl rfl (by kernel_rfl) (fun _ _ _ h => h) (Or.inl ⟨by rfl, ?_⟩) ?_ ?_
      rotate_left
      · intro w'
        go_simp
        with_reducible rfl
      rotate_left
      · simp only [Act.put, List.setIfInBounds_toArray, List.set_cons_zero, List.set_cons_succ, i64_w, i32_w]
        rfl
      refine pure_ (i := 11) (N := some 84) (v := ?_) (a' := ?_) #[true, true, true, true, true, false, true, true, true, true, false, true, false, false, false, false, false, false, false] rfl rfl (by kernel_rfl) (fun _ _ _ h => h) (Or.inl ⟨by rfl, ?_⟩) ?_ ?_
      rotate_left
      · intro w'
        go_simp
        with_reducible rfl
      rotate_left
      · simp only [Act.put, List.setIfInBounds_toArray, List.set_cons_zero, List.set_cons_succ, i64_w, i32_w]
        rfl
      refine pure_ (i := 12) (N := some 85) (v := ?_) (a' := ?_) #[true, true, true, true, true, false, true, true, true, true, false, true, true, false, false, false, false, false, false] rfl rfl (by kernel_rfl) (fun _ _ _ h => h) (Or.inl ⟨by rfl, ?_⟩) ?_ ?_
      rotate_left
      · intro w'
        go_simp
        with_reducible rfl
      rotate_left
      · simp only [Act.put, List.setIfInBounds_toArray, List.set_cons_zero, List.set_cons_succ, i64_w, i32_w]
        rfl
      refine take_ (i := 5) (N := some 78) (v := ?_) (a' := ?_) #[true, true, true, true, true, true, true, true, true, true, false, true, true, false, false, false, false, false, false] rfl rfl (by kernel_rfl) (fun _ _ _ h => h) (Or.inl ⟨by rfl, ?_⟩) hHeld ?_ ?_
      rotate_left
      · rintro w' ⟨s0, s1⟩
        go_simp
        with_reducible rfl
      rotate_left
      · simp only [Act.put, List.setIfInBounds_toArray, List.set_cons_zero, List.set_cons_succ, i64_w, i32_w]
        rfl
      refine take_ (i := 10) (N := some 83) (v := ?_) (a' := ?_) #[true, true, true, true, true, true, true, true, true, true, true, true, true, false, false, false, false, false, false] rfl rfl (by kernel_rfl) (fun _ _ _ h => h) (Or.inl ⟨by rfl, ?_⟩) hHeld ?_ ?_
      rotate_left
      · rintro w' ⟨s0, s1⟩
        go_simp
        with_reducible rfl
      rotate_left
      · simp only [Act.put, List.setIfInBounds_toArray, List.set_cons_zero, List.set_cons_succ, i64_w, i32_w]
        rfl
      refine pure_ (i := 13) (N := some 86) (v := ?_) (a' := ?_) #[true, true, true, true, true, true, true, true, true, true, true, true, true, true, false, false, false, false, false] rfl rfl (by kernel_rfl) (fun _ _ _ h => h) (Or.inl ⟨by rfl, ?_⟩) ?_ ?_
      rotate_left
      · intro w'
        go_simp
        with_reducible rfl
      rotate_left
      · simp only [Act.put, List.setIfInBounds_toArray, List.set_cons_zero, List.set_cons_succ, i64_w, i32_w]
        rfl
      refine pure_ (i := 14) (N := some 87) (v := ?_) (a' := ?_) #[true, true, true, true, true, true, true, true, true, true, true, true, true, true, true, false, false, false, false] rfl rfl (by kernel_rfl) (fun _ _ _ h => h) (Or.inl ⟨by rfl, ?_⟩) ?_ ?_
      rotate_left
      · intro w'
        go_simp
        with_reducible rfl
      rotate_left
      · simp only [Act.put, List.setIfInBounds_toArray, List.set_cons_zero, List.set_cons_succ, i64_w, i32_w]
        rfl
      refine pure_ (i := 15) (N := some 88) (v := ?_) (a' := ?_) #[true, true, true, true, true, true, true, true, true, true, true, true, true, true, true, true, false, false, false] rfl rfl (by kernel_rfl) (fun _ _ _ h => h) (Or.inl ⟨by rfl, ?_⟩) ?_ ?_
      rotate_left
      · intro w'
        go_simp
        with_reducible rfl
      rotate_left
      · simp only [Act.put, List.setIfInBounds_toArray, List.set_cons_zero, List.set_cons_succ, i64_w, i32_w]
        rfl
      refine pure_ (i := 16) (N := some 89) (v := ?_) (a' := ?_) #[true, true, true, true, true, true, true, true, true, true, true, true, true, true, true, true, true, false, false] rfl rfl (by kernel_rfl) (fun _ _ _ h => h) (Or.inl ⟨by rfl, ?_⟩) ?_ ?_
      rotate_left
      · intro w'
        go_simp
        with_reducible rfl
      rotate_left
      · simp only [Act.put, List.setIfInBounds_toArray, List.set_cons_zero, List.set_cons_succ, i64_w, i32_w]
        rfl
      refine pure_ (i := 17) (N := some 90) (v := ?_) (a' := ?_) #[true, true, true, true, true, true, true, true, true, true, true, true, true, true, true, true, true, true, false] rfl rfl (by kernel_rfl) (fun _ _ _ h => h) (Or.inl ⟨by rfl, ?_⟩) ?_ ?_
      rotate_left
      · intro w'
        go_simp
        with_reducible rfl
      rotate_left
      · simp only [Act.put, List.setIfInBounds_toArray, List.set_cons_zero, List.set_cons_succ, i64_w, i32_w]
        rfl
      refine last_ (i := 18) (N := none) #[true, true, true, true, true, true, true, true, true, true, true, true, true, true, true, true, true, true, true] rfl rfl (by kernel_rfl) (by decide) (fun K hK => ?_)
      have cf := (show wd.cell? ⟨g2, k.toNat * 6 + 3, none⟩ = some (.int .i64 t.f2.f1) from hHeld.2)
      have ff := HFR.out (k.toNat * 6 + 3)
      refine skip_ (w1 := ?_) (by rfl) rfl ?_ ?_
      rotate_left
      · go_simp
        rfl
      refine hK.out _ _ ?_
      clear hK K
      refine done_ (by kernel_rfl) ?_
      have HNEW := Aside0.mk (row54_put HOd.out k HK.out.1 HK.out.2 3 v ⟨t.f0, t.f1, ⟨t.f2.f0, v⟩, t.f3⟩ (by decide) (by rw [HT.out]; rfl))
      have HN2 := Aside0.mk (narrow_one (x' := ⟨t.f0, t.f1, ⟨t.f2.f0, v⟩, t.f3⟩) HT.out HK.out.1 HK.out.2 (by have := HVR.out; have := HTK.out; refine ⟨rfl, ?_, ?_, ?_, ?_⟩ <;> simp only <;> omega))
      have HXO := Aside0.mk (show XOk w (wd.setCell ⟨g2, k.toNat * 6 + 3, none⟩ (.int .i64 v)) p o w1.heap.size ts A2 c2 A3 c3 ns from ⟨some ⟨g2, 0, none⟩, cap2, ts.set k.toNat ⟨t.f0, t.f1, ⟨t.f2.f0, v⟩, t.f3⟩, by rw [List.length_set]; exact blk_far BXd.out (by have := HG2.out; simp; omega) _, (Kd.R_reads' HNEW.out).2.2, by rw [List.length_set]; exact (Kd.R_reads' HNEW.out).2.1, by rw [List.length_set]; have := HTS.out; omega, HN2.out, below_set HBd.out (by have := HG2.out; have := HSX.out.1; omega), blk_far BKd.out (by have := HG2.out; have := HSX.out.1; simp; omega) _⟩)
      clear HNEW HN2 HVR HV HOd BXd BKd HFR HBd cf ff y0 y1 y2 y3 y4 y5 hHeld
      go_wp2
      go_meet
      case rel => exact HXO.out
    ·
      have ha3 := HA3.out
      have htk := HTK.out
      have w3' : wrap64 a3 = a3 := by unfold wrap64; omega
      have w4' : wrap64 (t.f3.f0 + a3) = t.f3.f0 + a3 := by unfold wrap64; omega
      clear ha3 htk
      obtain ⟨v, hv, hvr⟩ : ∃ v, (if t.f3.f0 + a3 < t.f3.f1 then t.f3.f0 + a3 else t.f3.f1) = v ∧ t.f3.f0 ≤ (if t.f3.f0 + a3 < t.f3.f1 then t.f3.f0 + a3 else t.f3.f1) ∧ (if t.f3.f0 + a3 < t.f3.f1 then t.f3.f0 + a3 else t.f3.f1) ≤ t.f3.f1 := ⟨_, rfl, by have := HTK.out; have := HA3.out; split <;> omega⟩
      rw [hv] at hvr
      have HV := Aside0.mk hv
      have HVR := Aside0.mk hvr
      clear hvr
      go_wp2
      have HFR := Aside0.mk (fun j : Nat => row_frozen HO.out (by have := HTL.out; omega) j)
      have HBd := Aside0.mk (below_drew1 HB.out)
      have HOd := Aside0.mk (Kd.R_drew HO.out)
      refine start_ (n := 19) (S := fun w' => w'.cell? ⟨g2, k.toNat * 6 + 5, none⟩ = some (.int .i64 t.f3.f1) ∧ w'.cell? ⟨g2, k.toNat * 6 + 4, none⟩ = some (.int .i64 t.f3.f0)) (ds := [18]) #[false, false, false, false, false, false, false, false, false, false, false, false, false, false, false, false, false, false, false] (by kernel_rfl) rfl rfl ⟨y5, y4⟩ (fun hHeld => ?_)
      have BXd := Aside0.mk (show wq.drew.heap[w1.heap.size]? = some (.cells #[.int .i64 p, .int .i64 o, .slice (some ⟨g2, 0, none⟩) ts.length cap2, .slice A3 ns.length c3] 25 (0, 0)) from BX.out)
      have BKd := Aside0.mk (show wq.drew.heap[w.heap.size]? = some (.cells #[.int .i64 p, .int .i64 o, .slice A2 ts.length c2, .slice A3 ns.length c3] 25 (0, 0)) from BK.out)
      have HFR := Aside0.mk (show ∀ j : Nat, wq.drew.frozen? ⟨g2, j, none⟩ = false from HFR.out)
      generalize wq.drew = wd at HBd HOd BXd BKd HFR hHeld ⊢
      refine pure_ (i := 0) (N := some 93) (v := ?_) (a' := ?_) #[true, false, false, false, false, false, false, false, false, false, false, false, false, false, false, false, false, false, false] rfl rfl (by kernel_rfl) (fun _ _ _ h => h) (Or.inl ⟨by rfl, ?_⟩) ?_ ?_
      rotate_left
      · intro w'
        go_simp
        with_reducible rfl
      rotate_left
      · simp only [Act.put, List.setIfInBounds_toArray, List.set_cons_zero, List.set_cons_succ, i64_w, i32_w]
        rfl
      refine pure_ (i := 1) (N := some 94) (v := ?_) (a' := ?_) #[true, true, false, false, false, false, false, false, false, false, false, false, false, false, false, false, false, false, false] rfl rfl (by kernel_rfl) (fun _ _ _ h => h) (Or.inl ⟨by rfl, ?_⟩) ?_ ?_
      rotate_left
      · intro w'
        go_simp
        with_reducible rfl
      rotate_left
      · simp only [Act.put, List.setIfInBounds_toArray, List.set_cons_zero, List.set_cons_succ, i64_w, i32_w]
        rfl
      refine pure_ (i := 2) (N := some 95) (v := ?_) (a' := ?_) #[true, true, true, false, false, false, false, false, false, false, false, false, false, false, false, false, false, false, false] rfl rfl (by kernel_rfl) (fun _ _ _ h => h) (Or.inl ⟨by rfl, ?_⟩) ?_ ?_
      rotate_left
      · intro w'
        go_simp
        with_reducible rfl
      rotate_left
      · simp only [Act.put, List.setIfInBounds_toArray, List.set_cons_zero, List.set_cons_succ, i64_w, i32_w]
        rfl
      refine pure_ (i := 3) (N := some 96) (v := ?_) (a' := ?_) #[true, true, true, true, false, false, false, false, false, false, false, false, false, false, false, false, false, false, false] rfl rfl (by kernel_rfl) (fun _ _ _ h => h) (Or.inl ⟨by rfl, ?_⟩) ?_ ?_
      rotate_left
      · intro w'
        go_simp
        with_reducible rfl
      rotate_left
      · simp only [Act.put, List.setIfInBounds_toArray, List.set_cons_zero, List.set_cons_succ, i64_w, i32_w]
        rfl
      refine pure_ (i := 4) (N := some 97) (v := ?_) (a' := ?_) #[true, true, true, true, true, false, false, false, false, false, false, false, false, false, false, false, false, false, false] rfl rfl (by kernel_rfl) (fun _ _ _ h => h) (Or.inl ⟨by rfl, ?_⟩) ?_ ?_
      rotate_left
      · intro w'
        go_simp
        with_reducible rfl
      rotate_left
      · simp only [Act.put, List.setIfInBounds_toArray, List.set_cons_zero, List.set_cons_succ, i64_w, i32_w]
        rfl
      refine pure_ (i := 6) (N := some 99) (v := ?_) (a' := ?_) #[true, true, true, true, true, false, true, false, false, false, false, false, false, false, false, false, false, false, false] rfl rfl (by kernel_rfl) (fun _ _ _ h => h) (Or.inl ⟨by rfl, ?_⟩) ?_ ?_
      rotate_left
      · intro w'
        go_simp
        with_reducible rfl
      rotate_left
      · simp only [Act.put, List.setIfInBounds_toArray, List.set_cons_zero, List.set_cons_succ, i64_w, i32_w]
        rfl
      refine pure_ (i := 7) (N := some 100) (v := ?_) (a' := ?_) #[true, true, true, true, true, false, true, true, false, false, false, false, false, false, false, false, false, false, false] rfl rfl (by kernel_rfl) (fun _ _ _ h => h) (Or.inl ⟨by rfl, ?_⟩) ?_ ?_
      rotate_left
      · intro w'
        go_simp
        with_reducible rfl
      rotate_left
      · simp only [Act.put, List.setIfInBounds_toArray, List.set_cons_zero, List.set_cons_succ, i64_w, i32_w]
        rfl
      refine pure_ (i := 8) (N := some 101) (v := ?_) (a' := ?_) #[true, true, true, true, true, false, true, true, true, false, false, false, false, false, false, false, false, false, false] rfl rfl (by kernel_rfl) (fun _ _ _ h => h) (Or.inl ⟨by rfl, ?_⟩) ?_ ?_
      rotate_left
      · intro w'
        go_simp
        with_reducible rfl
      rotate_left
      · simp only [Act.put, List.setIfInBounds_toArray, List.set_cons_zero, List.set_cons_succ, i64_w, i32_w]
        rfl
      refine pure_ (i := 9) (N := some 102) (v := ?_) (a' := ?_) #[true, true, true, true, true, false, true, true, true, true, false, false, false, false, false, false, false, false, false] rfl rfl (by kernel_rfl) (fun _ _ _ h => h) (Or.inl ⟨by rfl, ?_⟩) ?_ ?_
      rotate_left
      · intro w'
        go_simp
        with_reducible rfl
      rotate_left
      · simp only [Act.put, List.setIfInBounds_toArray, List.set_cons_zero, List.set_cons_succ, i64_w, i32_w]
        rfl
      refine pure_ (i := 11) (N := some 104) (v := ?_) (a' := ?_) #[true, true, true, true, true, false, true, true, true, true, false, true, false, false, false, false, false, false, false] rfl rfl (by kernel_rfl) (fun _ _ _ h => h) (Or.inl ⟨by rfl, ?_⟩) ?_ ?_
      rotate_left
      · intro w'
        go_simp
        with_reducible rfl
      rotate_left
      · simp only [Act.put, List.setIfInBounds_toArray, List.set_cons_zero, List.set_cons_succ, i64_w, i32_w]
        rfl
      refine pure_ (i := 12) (N := some 105) (v := ?_) (a' := ?_) #[true, true, true, true, true, false, true, true, true, true, false, true, true, false, false, false, false, false, false] rfl rfl (by kernel_rfl) (fun _ _ _ h => h) (Or.inl ⟨by rfl, ?_⟩) ?_ ?_
      rotate_left
      · intro w'
        go_simp
        with_reducible rfl
      rotate_left
      · simp only [Act.put, List.setIfInBounds_toArray, List.set_cons_zero, List.set_cons_succ, i64_w, i32_w]
        rfl
      refine take_ (i := 5) (N := some 98) (v := ?_) (a' := ?_) #[true, true, true, true, true, true, true, true, true, true, false, true, true, false, false, false, false, false, false] rfl rfl (by kernel_rfl) (fun _ _ _ h => h) (Or.inl ⟨by rfl, ?_⟩) hHeld ?_ ?_
      rotate_left
      · rintro w' ⟨s0, s1⟩
        go_simp
        with_reducible rfl
      rotate_left
      · simp only [Act.put, List.setIfInBounds_toArray, List.set_cons_zero, List.set_cons_succ, i64_w, i32_w]
        rfl
      refine take_ (i := 10) (N := some 103) (v := ?_) (a' := ?_) #[true, true, true, true, true, true, true, true, true, true, true, true, true, false, false, false, false, false, false] rfl rfl (by kernel_rfl) (fun _ _ _ h => h) (Or.inl ⟨by rfl, ?_⟩) hHeld ?_ ?_
      rotate_left
      · rintro w' ⟨s0, s1⟩
        go_simp
        with_reducible rfl
      rotate_left
      · simp only [Act.put, List.setIfInBounds_toArray, List.set_cons_zero, List.set_cons_succ, i64_w, i32_w]
        rfl
      refine pure_ (i := 13) (N := some 106) (v := ?_) (a' := ?_) #[true, true, true, true, true, true, true, true, true, true, true, true, true, true, false, false, false, false, false] rfl rfl (by kernel_rfl) (fun _ _ _ h => h) (Or.inl ⟨by rfl, ?_⟩) ?_ ?_
      rotate_left
      · intro w'
        go_simp
        with_reducible rfl
      rotate_left
      · simp only [Act.put, List.setIfInBounds_toArray, List.set_cons_zero, List.set_cons_succ, i64_w, i32_w]
        rfl
      refine pure_ (i := 14) (N := some 107) (v := ?_) (a' := ?_) #[true, true, true, true, true, true, true, true, true, true, true, true, true, true, true, false, false, false, false] rfl rfl (by kernel_rfl) (fun _ _ _ h => h) (Or.inl ⟨by rfl, ?_⟩) ?_ ?_
      rotate_left
      · intro w'
        go_simp
        with_reducible rfl
      rotate_left
      · simp only [Act.put, List.setIfInBounds_toArray, List.set_cons_zero, List.set_cons_succ, i64_w, i32_w]
        rfl
      refine pure_ (i := 15) (N := some 108) (v := ?_) (a' := ?_) #[true, true, true, true, true, true, true, true, true, true, true, true, true, true, true, true, false, false, false] rfl rfl (by kernel_rfl) (fun _ _ _ h => h) (Or.inl ⟨by rfl, ?_⟩) ?_ ?_
      rotate_left
      · intro w'
        go_simp
        with_reducible rfl
      rotate_left
      · simp only [Act.put, List.setIfInBounds_toArray, List.set_cons_zero, List.set_cons_succ, i64_w, i32_w]
        rfl
      refine pure_ (i := 16) (N := some 109) (v := ?_) (a' := ?_) #[true, true, true, true, true, true, true, true, true, true, true, true, true, true, true, true, true, false, false] rfl rfl (by kernel_rfl) (fun _ _ _ h => h) (Or.inl ⟨by rfl, ?_⟩) ?_ ?_
      rotate_left
      · intro w'
        go_simp
        with_reducible rfl
      rotate_left
      · simp only [Act.put, List.setIfInBounds_toArray, List.set_cons_zero, List.set_cons_succ, i64_w, i32_w]
        rfl
      refine pure_ (i := 17) (N := some 110) (v := ?_) (a' := ?_) #[true, true, true, true, true, true, true, true, true, true, true, true, true, true, true, true, true, true, false] rfl rfl (by kernel_rfl) (fun _ _ _ h => h) (Or.inl ⟨by rfl, ?_⟩) ?_ ?_
      rotate_left
      · intro w'
        go_simp
        with_reducible rfl
      rotate_left
      · simp only [Act.put, List.setIfInBounds_toArray, List.set_cons_zero, List.set_cons_succ, i64_w, i32_w]
        rfl
      refine last_ (i := 18) (N := none) #[true, true, true, true, true, true, true, true, true, true, true, true, true, true, true, true, true, true, true] rfl rfl (by kernel_rfl) (by decide) (fun K hK => ?_)
      have cf := (show wd.cell? ⟨g2, k.toNat * 6 + 4, none⟩ = some (.int .i64 t.f3.f0) from hHeld.2)
      have ff := HFR.out (k.toNat * 6 + 4)
      refine skip_ (w1 := ?_) (by rfl) rfl ?_ ?_
      rotate_left
      · go_simp
        rfl
      refine hK.out _ _ ?_
      clear hK K
      refine done_ (by kernel_rfl) ?_
      have HNEW := Aside0.mk (row54_put HOd.out k HK.out.1 HK.out.2 4 v ⟨t.f0, t.f1, t.f2, ⟨v, t.f3.f1⟩⟩ (by decide) (by rw [HT.out]; rfl))
      have HN2 := Aside0.mk (narrow_one (x' := ⟨t.f0, t.f1, t.f2, ⟨v, t.f3.f1⟩⟩) HT.out HK.out.1 HK.out.2 (by have := HVR.out; have := HTK.out; refine ⟨rfl, ?_, ?_, ?_, ?_⟩ <;> simp only <;> omega))
      have HXO := Aside0.mk (show XOk w (wd.setCell ⟨g2, k.toNat * 6 + 4, none⟩ (.int .i64 v)) p o w1.heap.size ts A2 c2 A3 c3 ns from ⟨some ⟨g2, 0, none⟩, cap2, ts.set k.toNat ⟨t.f0, t.f1, t.f2, ⟨v, t.f3.f1⟩⟩, by rw [List.length_set]; exact blk_far BXd.out (by have := HG2.out; simp; omega) _, (Kd.R_reads' HNEW.out).2.2, by rw [List.length_set]; exact (Kd.R_reads' HNEW.out).2.1, by rw [List.length_set]; have := HTS.out; omega, HN2.out, below_set HBd.out (by have := HG2.out; have := HSX.out.1; omega), blk_far BKd.out (by have := HG2.out; have := HSX.out.1; simp; omega) _⟩)
      clear HNEW HN2 HVR HV HOd BXd BKd HFR HBd cf ff y0 y1 y2 y3 y4 y5 hHeld
      go_wp2
      go_meet
      case rel => exact HXO.out
    ·
      have ha3 := HA3.out
      have htk := HTK.out
      have w3' : wrap64 a3 = a3 := by unfold wrap64; omega
      have w4' : wrap64 (t.f3.f1 - a3) = t.f3.f1 - a3 := by unfold wrap64; omega
      clear ha3 htk
      obtain ⟨v, hv, hvr⟩ : ∃ v, (if t.f3.f0 < t.f3.f1 - a3 then t.f3.f1 - a3 else t.f3.f0) = v ∧ t.f3.f0 ≤ (if t.f3.f0 < t.f3.f1 - a3 then t.f3.f1 - a3 else t.f3.f0) ∧ (if t.f3.f0 < t.f3.f1 - a3 then t.f3.f1 - a3 else t.f3.f0) ≤ t.f3.f1 := ⟨_, rfl, by have := HTK.out; have := HA3.out; split <;> omega⟩
      rw [hv] at hvr
      have HV := Aside0.mk hv
      have HVR := Aside0.mk hvr
      clear hvr
      go_wp2
      have HFR := Aside0.mk (fun j : Nat => row_frozen HO.out (by have := HTL.out; omega) j)
      have HBd := Aside0.mk (below_drew1 HB.out)
      have HOd := Aside0.mk (Kd.R_drew HO.out)
      refine start_ (n := 19) (S := fun w' => w'.cell? ⟨g2, k.toNat * 6 + 4, none⟩ = some (.int .i64 t.f3.f0) ∧ w'.cell? ⟨g2, k.toNat * 6 + 5, none⟩ = some (.int .i64 t.f3.f1)) (ds := [18]) #[false, false, false, false, false, false, false, false, false, false, false, false, false, false, false, false, false, false, false] (by kernel_rfl) rfl rfl ⟨y4, y5⟩ (fun hHeld => ?_)
      have BXd := Aside0.mk (show wq.drew.heap[w1.heap.size]? = some (.cells #[.int .i64 p, .int .i64 o, .slice (some ⟨g2, 0, none⟩) ts.length cap2, .slice A3 ns.length c3] 25 (0, 0)) from BX.out)
      have BKd := Aside0.mk (show wq.drew.heap[w.heap.size]? = some (.cells #[.int .i64 p, .int .i64 o, .slice A2 ts.length c2, .slice A3 ns.length c3] 25 (0, 0)) from BK.out)
      have HFR := Aside0.mk (show ∀ j : Nat, wq.drew.frozen? ⟨g2, j, none⟩ = false from HFR.out)
      generalize wq.drew = wd at HBd HOd BXd BKd HFR hHeld ⊢
      refine pure_ (i := 0) (N := some 113) (v := ?_) (a' := ?_) #[true, false, false, false, false, false, false, false, false, false, false, false, false, false, false, false, false, false, false] rfl rfl (by kernel_rfl) (fun _ _ _ h => h) (Or.inl ⟨by rfl, ?_⟩) ?_ ?_
      rotate_left
      · intro w'
        go_simp
        with_reducible rfl
      rotate_left
      · simp only [Act.put, List.setIfInBounds_toArray, List.set_cons_zero, List.set_cons_succ, i64_w, i32_w]
        rfl
      refine pure_ (i := 1) (N := some 114) (v := ?_) (a' := ?_) #[true, true, false, false, false, false, false, false, false, false, false, false, false, false, false, false, false, false, false] rfl rfl (by kernel_rfl) (fun _ _ _ h => h) (Or.inl ⟨by rfl, ?_⟩) ?_ ?_
      rotate_left
      · intro w'
        go_simp
        with_reducible rfl
      rotate_left
      · simp only [Act.put, List.setIfInBounds_toArray, List.set_cons_zero, List.set_cons_succ, i64_w, i32_w]
        rfl
      refine pure_ (i := 2) (N := some 115) (v := ?_) (a' := ?_) #[true, true, true, false, false, false, false, false, false, false, false, false, false, false, false, false, false, false, false] rfl rfl (by kernel_rfl) (fun _ _ _ h => h) (Or.inl ⟨by rfl, ?_⟩) ?_ ?_
      rotate_left
      · intro w'
        go_simp
        with_reducible rfl
      rotate_left
      · simp only [Act.put, List.setIfInBounds_toArray, List.set_cons_zero, List.set_cons_succ, i64_w, i32_w]
        rfl
      refine pure_ (i := 3) (N := some 116) (v := ?_) (a' := ?_) #[true, true, true, true, false, false, false, false, false, false, false, false, false, false, false, false, false, false, false] rfl rfl (by kernel_rfl) (fun _ _ _ h => h) (Or.inl ⟨by rfl, ?_⟩) ?_ ?_
      rotate_left
      · intro w'
        go_simp
        with_reducible rfl
      rotate_left
      · simp only [Act.put, List.setIfInBounds_toArray, List.set_cons_zero, List.set_cons_succ, i64_w, i32_w]
        rfl
      refine pure_ (i := 4) (N := some 117) (v := ?_) (a' := ?_) #[true, true, true, true, true, false, false, false, false, false, false, false, false, false, false, false, false, false, false] rfl rfl (by kernel_rfl) (fun _ _ _ h => h) (Or.inl ⟨by rfl, ?_⟩) ?_ ?_
      rotate_left
      · intro w'
        go_simp
        with_reducible rfl
      rotate_left
      · simp only [Act.put, List.setIfInBounds_toArray, List.set_cons_zero, List.set_cons_succ, i64_w, i32_w]
        rfl
      refine pure_ (i := 6) (N := some 119) (v := ?_) (a' := ?_) #[true, true, true, true, true, false, true, false, false, false, false, false, false, false, false, false, false, false, false] rfl rfl (by kernel_rfl) (fun _ _ _ h => h) (Or.inl ⟨by rfl, ?_⟩) ?_ ?_
      rotate_left
      · intro w'
        go_simp
        with_reducible rfl
      rotate_left
      · simp only [Act.put, List.setIfInBounds_toArray, List.set_cons_zero, List.set_cons_succ, i64_w, i32_w]
        rfl
      refine pure_ (i := 7) (N := some 120) (v := ?_) (a' := ?_) #[true, true, true, true, true, false, true, true, false, false, false, false, false, false, false, false, false, false, false] rfl rfl (by kernel_rfl) (fun _ _ _ h => h) (Or.inl ⟨by rfl, ?_⟩) ?_ ?_
      rotate_left
      · intro w'
        go_simp
        with_reducible rfl
      rotate_left
      · simp only [Act.put, List.setIfInBounds_toArray, List.set_cons_zero, List.set_cons_succ, i64_w, i32_w]
        rfl
      refine pure_ (i := 8) (N := some 121) (v := ?_) (a' := ?_) #[true, true, true, true, true, false, true, true, true, false, false, false, false, false, false, false, false, false, false] rfl rfl (by kernel_rfl) (fun _ _ _ h => h) (Or.inl ⟨by rfl, ?_⟩) ?_ ?_
      rotate_left
      · intro w'
        go_simp
        with_reducible rfl
      rotate_left
      · simp only [Act.put, List.setIfInBounds_toArray, List.set_cons_zero, List.set_cons_succ, i64_w, i32_w]
        rfl
      refine pure_ (i := 9) (N := some 122) (v := ?_) (a' := ?_) #[true, true, true, true, true, false, true, true, true, true, false, false, false, false, false, false, false, false, false] rfl rfl (by kernel_rfl) (fun _ _ _ h => h) (Or.inl ⟨by rfl, ?_⟩) ?_ ?_
      rotate_left
      · intro w'
        go_simp
        with_reducible rfl
      rotate_left
      · simp only [Act.put, List.setIfInBounds_toArray, List.set_cons_zero, List.set_cons_succ, i64_w, i32_w]
        rfl
      refine pure_ (i := 11) (N := some 124) (v := ?_) (a' := ?_) #[true, true, true, true, true, false, true, true, true, true, false, true, false, false, false, false, false, false, false] rfl rfl (by kernel_rfl) (fun _ _ _ h => h) (Or.inl ⟨by rfl, ?_⟩) ?_ ?_
      rotate_left
      · intro w'
        go_simp
        with_reducible rfl
      rotate_left
      · simp only [Act.put, List.setIfInBounds_toArray, List.set_cons_zero, List.set_cons_succ, i64_w, i32_w]
        rfl
      refine pure_ (i := 12) (N := some 125) (v := ?_) (a' := ?_) #[true, true, true, true, true, false, true, true, true, true, false, true, true, false, false, false, false, false, false] rfl rfl (by kernel_rfl) (fun _ _ _ h => h) (Or.inl ⟨by rfl, ?_⟩) ?_ ?_
      rotate_left
      · intro w'
        go_simp
        with_reducible rfl
      rotate_left
      · simp only [Act.put, List.setIfInBounds_toArray, List.set_cons_zero, List.set_cons_succ, i64_w, i32_w]
        rfl
      refine take_ (i := 5) (N := some 118) (v := ?_) (a' := ?_) #[true, true, true, true, true, true, true, true, true, true, false, true, true, false, false, false, false, false, false] rfl rfl (by kernel_rfl) (fun _ _ _ h => h) (Or.inl ⟨by rfl, ?_⟩) hHeld ?_ ?_
      rotate_left
      · rintro w' ⟨s0, s1⟩
        go_simp
        with_reducible rfl
      rotate_left
      · simp only [Act.put, List.setIfInBounds_toArray, List.set_cons_zero, List.set_cons_succ, i64_w, i32_w]
        rfl
      refine take_ (i := 10) (N := some 123) (v := ?_) (a' := ?_) #[true, true, true, true, true, true, true, true, true, true, true, true, true, false, false, false, false, false, false] rfl rfl (by kernel_rfl) (fun _ _ _ h => h) (Or.inl ⟨by rfl, ?_⟩) hHeld ?_ ?_
      rotate_left
      · rintro w' ⟨s0, s1⟩
        go_simp
        with_reducible rfl
      rotate_left
      · simp only [Act.put, List.setIfInBounds_toArray, List.set_cons_zero, List.set_cons_succ, i64_w, i32_w]
        rfl
      refine pure_ (i := 13) (N := some 126) (v := ?_) (a' := ?_) #[true, true, true, true, true, true, true, true, true, true, true, true, true, true, false, false, false, false, false] rfl rfl (by kernel_rfl) (fun _ _ _ h => h) (Or.inl ⟨by rfl, ?_⟩) ?_ ?_
      rotate_left
      · intro w'
        go_simp
        with_reducible rfl
      rotate_left
      · simp only [Act.put, List.setIfInBounds_toArray, List.set_cons_zero, List.set_cons_succ, i64_w, i32_w]
        rfl
      refine pure_ (i := 14) (N := some 127) (v := ?_) (a' := ?_) #[true, true, true, true, true, true, true, true, true, true, true, true, true, true, true, false, false, false, false] rfl rfl (by kernel_rfl) (fun _ _ _ h => h) (Or.inl ⟨by rfl, ?_⟩) ?_ ?_
      rotate_left
      · intro w'
        go_simp
        with_reducible rfl
      rotate_left
      · simp only [Act.put, List.setIfInBounds_toArray, List.set_cons_zero, List.set_cons_succ, i64_w, i32_w]
        rfl
      refine pure_ (i := 15) (N := some 128) (v := ?_) (a' := ?_) #[true, true, true, true, true, true, true, true, true, true, true, true, true, true, true, true, false, false, false] rfl rfl (by kernel_rfl) (fun _ _ _ h => h) (Or.inl ⟨by rfl, ?_⟩) ?_ ?_
      rotate_left
      · intro w'
        go_simp
        with_reducible rfl
      rotate_left
      · simp only [Act.put, List.setIfInBounds_toArray, List.set_cons_zero, List.set_cons_succ, i64_w, i32_w]
        rfl
      refine pure_ (i := 16) (N := some 129) (v := ?_) (a' := ?_) #[true, true, true, true, true, true, true, true, true, true, true, true, true, true, true, true, true, false, false] rfl rfl (by kernel_rfl) (fun _ _ _ h => h) (Or.inl ⟨by rfl, ?_⟩) ?_ ?_
      rotate_left
      · intro w'
        go_simp
        with_reducible rfl
      rotate_left
      · simp only [Act.put, List.setIfInBounds_toArray, List.set_cons_zero, List.set_cons_succ, i64_w, i32_w]
        rfl
      refine pure_ (i := 17) (N := some 130) (v := ?_) (a' := ?_) #[true, true, true, true, true, true, true, true, true, true, true, true, true, true, true, true, true, true, false] rfl rfl (by kernel_rfl) (fun _ _ _ h => h) (Or.inl ⟨by rfl, ?_⟩) ?_ ?_
      rotate_left
      · intro w'
        go_simp
        with_reducible rfl
      rotate_left
      · simp only [Act.put, List.setIfInBounds_toArray, List.set_cons_zero, List.set_cons_succ, i64_w, i32_w]
        rfl
      refine last_ (i := 18) (N := none) #[true, true, true, true, true, true, true, true, true, true, true, true, true, true, true, true, true, true, true] rfl rfl (by kernel_rfl) (by decide) (fun K hK => ?_)
      have cf := (show wd.cell? ⟨g2, k.toNat * 6 + 5, none⟩ = some (.int .i64 t.f3.f1) from hHeld.2)
      have ff := HFR.out (k.toNat * 6 + 5)
      refine skip_ (w1 := ?_) (by rfl) rfl ?_ ?_
      rotate_left
      · go_simp
        rfl
      refine hK.out _ _ ?_
      clear hK K
      refine done_ (by kernel_rfl) ?_
      have HNEW := Aside0.mk (row54_put HOd.out k HK.out.1 HK.out.2 5 v ⟨t.f0, t.f1, t.f2, ⟨t.f3.f0, v⟩⟩ (by decide) (by rw [HT.out]; rfl))
      have HN2 := Aside0.mk (narrow_one (x' := ⟨t.f0, t.f1, t.f2, ⟨t.f3.f0, v⟩⟩) HT.out HK.out.1 HK.out.2 (by have := HVR.out; have := HTK.out; refine ⟨rfl, ?_, ?_, ?_, ?_⟩ <;> simp only <;> omega))
      have HXO := Aside0.mk (show XOk w (wd.setCell ⟨g2, k.toNat * 6 + 5, none⟩ (.int .i64 v)) p o w1.heap.size ts A2 c2 A3 c3 ns from ⟨some ⟨g2, 0, none⟩, cap2, ts.set k.toNat ⟨t.f0, t.f1, t.f2, ⟨t.f3.f0, v⟩⟩, by rw [List.length_set]; exact blk_far BXd.out (by have := HG2.out; simp; omega) _, (Kd.R_reads' HNEW.out).2.2, by rw [List.length_set]; exact (Kd.R_reads' HNEW.out).2.1, by rw [List.length_set]; have := HTS.out; omega, HN2.out, below_set HBd.out (by have := HG2.out; have := HSX.out.1; omega), blk_far BKd.out (by have := HG2.out; have := HSX.out.1; simp; omega) _⟩)
      clear HNEW HN2 HVR HV HOd BXd BKd HFR HBd cf ff y0 y1 y2 y3 y4 y5 hHeld
      go_wp2
      go_meet
      case rel => exact HXO.out
    ·
      clear y0 y1 y2 y3 y4 y5
      obtain ⟨z0, z1, z2, z3, z4, z5⟩ := six_cells BM.out
      obtain ⟨k0, k1, k2, k3⟩ := roll_cells BX.out
      have kf2 := blk_frozen BX.out 2
      obtain ⟨xs, hxs⟩ : ∃ xs, ts ++ [more] = xs := ⟨_, rfl⟩
      have HXS := Aside0.mk hxs
      have HXL := Aside0.mk (show xs.length = ts.length + 1 by rw [← hxs]; simp)
      clear hxs
      go_wp2_with ((with_reducible refine gate_builtin (b := .append) (xs := #[.tmp 46, .tmp 48]) rfl ?_); at_builtin; refine Kd.R_append k54 (w0 := w) w.heap.size rfl (.tmp 46) (.tmp 48) 22 54 (.agg #[(.int .i64 0), (.int .i64 0), (.int .i64 0), (.int .i64 0), (.int .i64 0), (.int .i64 0)]) 48 rfl Try.underlying22 info54_ rfl (by decide) (by omega) (.slice (some ⟨g2, 0, none⟩) ts.length cap2) ts more (six54 more) (fun _ => True) (fun _ => False) rfl rfl (k54_mkM _ _ _ more) (fun _ hk => hk.elim) (fun _ _ => trivial) HO.out HB.out (below_size HB.out) (by have := HTS.out; omega) ?_; intro v6 w6 ho hb hg hat; rw [HXS.out] at ho; obtain ⟨g6, c6, e6, hgb, hgl, hgt⟩ := Kd.R_form ho (by have := HXL.out; omega); subst e6; clear hgb hgl hgt; have BX6 := Aside0.mk (blk_grown BX.out hg (by have := HG2.out; simp [Value.ownBlock]; omega)); have BK6 := Aside0.mk (blk_grown BK.out hg (by have := HG2.out; have := HSX.out; simp [Value.ownBlock]; omega)); have HO6 := Aside0.mk ho; have HB6 := Aside0.mk hb; have l2 := (blk_cell BX6.out 2).trans rfl; have lf2 := blk_frozen BX6.out 2; clear ho hb hg hat z0 z1 z2 z3 z4 z5 k0 k1 k2 k3 kf2)
      go_meet
      case rel =>
        have hn := narrow_app (ts.map toT) (toT more)
        rw [show ts.map toT ++ [toT more] = xs.map toT by rw [← HXS.out, List.map_append]; rfl] at hn
        have h := Kd.R_set HO6.out BX6.out (by decide) 2 (.slice (some ⟨g6, 0, none⟩) xs.length c6)
        exact ⟨some ⟨g6, 0, none⟩, c6, xs, blk_put BX6.out 2 _ rfl, (Kd.R_reads' h).2.2, (Kd.R_reads' h).2.1, by have := HXL.out; have := HTS.out; omega, hn, below_set HB6.out HSX.out.1, blk_far BK6.out HSX.out.2 _⟩
  case rest =>
    clear HBn HB BX BK BM HO
    obtain ⟨A, c, xs, hbx, hcx, hlx, hx41, hnar, hbb, hbk⟩ := hcut
    have HB := Aside0.mk hbb
    have BK := Aside0.mk hbk
    have BX := Aside0.mk hbx
    have HX := Aside0.mk hcx
    have HLX := Aside0.mk hlx
    have H41 := Aside0.mk hx41
    have HNR := Aside0.mk hnar
    clear hbx hcx hlx hx41 hnar hbb hbk
    obtain ⟨x0, x1, x2, x3⟩ := roll_cells BK.out
    obtain ⟨k0, k1, k2, k3⟩ := roll_cells BX.out
    go_wp2_with fail
    refine (Roll_calls p o A2 c2 ts A3 c3 ns _ (HIW.out.below HB.out) (by have := HTS.out; omega) HNS.out).mono ?_
    rintro e w5 ⟨B12, d12, B13, d13, rfl, ho, hb⟩
    have HO1 := Aside0.mk ho
    clear ho
    clear x0 x1 x2 x3 k0 k1 k2 k3
    have n_ := Aside0.mk (below_then HB.out HB.out.size hb)
    clear HB
    have HB := n_
    clear n_
    have n_ := Aside0.mk ((hb.block _ (blk_lt BK.out)).trans BK.out)
    clear BK
    have BK := n_
    clear n_
    have n_ := Aside0.mk ((hb.block _ (blk_lt BX.out)).trans BX.out)
    clear BX
    have BX := n_
    clear n_
    have n_ := Aside0.mk (Kd.C_below HX.out hb)
    clear HX
    have HX := n_
    clear n_
    clear hb
    obtain ⟨x0, x1, x2, x3⟩ := roll_cells BK.out
    obtain ⟨k0, k1, k2, k3⟩ := roll_cells BX.out
    go_wp2_with fail
    obtain ⟨L, hL⟩ : ∃ L, learnSpec p o (ts.map toT) (ns.map toN) = L := ⟨_, rfl⟩
    have HL := Aside0.mk hL
    clear hL
    refine (pLearn_calls p o B12 d12 (ts.map toT) B13 d13 (ns.map toN) _ _ (List.length_map ..) (List.length_map ..) _ HO1.out.1 HO1.out.2.1 HO1.out.2.2.1 HO1.out.2.2.2).mono ?_
    rintro e w6 ⟨AL, cL, rfl, -, hl2, hb⟩
    rw [HL.out] at hl2 ⊢
    have HKA := Aside0.mk hl2
    clear hl2 HO1
    clear x0 x1 x2 x3 k0 k1 k2 k3
    have n_ := Aside0.mk (below_then HB.out HB.out.size hb)
    clear HB
    have HB := n_
    clear n_
    have n_ := Aside0.mk ((hb.block _ (blk_lt BK.out)).trans BK.out)
    clear BK
    have BK := n_
    clear n_
    have n_ := Aside0.mk ((hb.block _ (blk_lt BX.out)).trans BX.out)
    clear BX
    have BX := n_
    clear n_
    have n_ := Aside0.mk (Kd.C_below HX.out hb)
    clear HX
    have HX := n_
    clear n_
    clear hb
    obtain ⟨x0, x1, x2, x3⟩ := roll_cells BK.out
    obtain ⟨k0, k1, k2, k3⟩ := roll_cells BX.out
    go_wp2_with fail
    refine (Roll_calls p o A c xs A3 c3 ns _ ⟨HX.out, HLX.out, (HIW.out.below HB.out).2.2.1, (HIW.out.below HB.out).2.2.2⟩ (by have := H41.out; omega) HNS.out).mono ?_
    rintro e w7 ⟨B22, d22, B23, d23, rfl, ho, hb⟩
    have HO2 := Aside0.mk ho
    clear ho
    clear x0 x1 x2 x3 k0 k1 k2 k3
    have n_ := Aside0.mk (below_then HB.out HB.out.size hb)
    clear HB
    have HB := n_
    clear n_
    have n_ := Aside0.mk ((hb.block _ (blk_lt BK.out)).trans BK.out)
    clear BK
    have BK := n_
    clear n_
    have n_ := Aside0.mk ((hb.block _ (blk_lt BX.out)).trans BX.out)
    clear BX
    have BX := n_
    clear n_
    have n_ := Aside0.mk (Kd.C_below HX.out hb)
    clear HX
    have HX := n_
    clear n_
    have n_ := Aside0.mk (Kd.C_below HKA.out hb)
    clear HKA
    have HKA := n_
    clear n_
    clear hb
    obtain ⟨x0, x1, x2, x3⟩ := roll_cells BK.out
    obtain ⟨k0, k1, k2, k3⟩ := roll_cells BX.out
    go_wp2_with fail
    obtain ⟨M, hM⟩ : ∃ M, learnSpec p o (xs.map toT) (ns.map toN) = M := ⟨_, rfl⟩
    have HM := Aside0.mk hM
    clear hM
    refine (pLearn_calls p o B22 d22 (xs.map toT) B23 d23 (ns.map toN) _ _ (List.length_map ..) (List.length_map ..) _ HO2.out.1 HO2.out.2.1 HO2.out.2.2.1 HO2.out.2.2.2).mono ?_
    rintro e w8 ⟨AM, cM, rfl, -, hl2, hb⟩
    rw [HM.out] at hl2 ⊢
    have HKB := Aside0.mk hl2
    clear hl2 HO2
    clear x0 x1 x2 x3 k0 k1 k2 k3
    have n_ := Aside0.mk (below_then HB.out HB.out.size hb)
    clear HB
    have HB := n_
    clear n_
    have n_ := Aside0.mk ((hb.block _ (blk_lt BK.out)).trans BK.out)
    clear BK
    have BK := n_
    clear n_
    have n_ := Aside0.mk ((hb.block _ (blk_lt BX.out)).trans BX.out)
    clear BX
    have BX := n_
    clear n_
    have n_ := Aside0.mk (Kd.C_below HX.out hb)
    clear HX
    have HX := n_
    clear n_
    have n_ := Aside0.mk (Kd.C_below HKA.out hb)
    clear HKA
    have HKA := n_
    clear n_
    clear hb
    obtain ⟨x0, x1, x2, x3⟩ := roll_cells BK.out
    obtain ⟨k0, k1, k2, k3⟩ := roll_cells BX.out
    have hls := HL.out
    unfold learnSpec at hls
    by_cases hs : soundOf p o (ts.map toT) (ns.map toN) = 0
    case neg =>
      rw [if_neg hs, sound_nine HFA.out hs] at hls
      subst hls
      simp only [List.length_nil]
      clear hs HL
      go_wp2_with fail
      refine (awake_calls _).mono ?_
      rintro e wz ⟨rfl, hb⟩
      have HBz := Aside0.mk (below_then HB.out HB.out.size hb)
      clear hb
      go_wp2
      go_ret
      exact ⟨rfl, HBz.out⟩
    rw [if_pos hs] at hls
    have HS1 := Aside0.mk (sound_zero hs).2
    obtain ⟨ka, hka⟩ : ∃ ka, (List.range (ts.map toT).length).map (knownAt (ts.map toT)) = ka := ⟨_, rfl⟩
    rw [hka] at hls
    have HA := Aside0.mk hka
    obtain rfl := hls.symm
    have HAL := Aside0.mk (show ka.length = ts.length by rw [← hka]; simp)
    simp only at HKA ⊢
    clear hs hls hka HL
    go_wp2_with fail
    obtain ⟨f, hf⟩ : ∃ f, faultOf p o xs ns = f := ⟨_, rfl⟩
    have HF := Aside0.mk hf
    clear hf
    refine (Fault_calls p o A c xs A3 c3 ns _ HX.out (HIW.out.below HB.out).2.2.1 (by have := H41.out; omega) HNS.out HSZ.out).mono ?_
    rintro e w9 ⟨rfl, hb⟩
    rw [HF.out]
    have n_ := Aside0.mk (Kd.C_below HKB.out hb)
    clear HKB
    have HKB := n_
    clear n_
    clear x0 x1 x2 x3 k0 k1 k2 k3
    have n_ := Aside0.mk (below_then HB.out HB.out.size hb)
    clear HB
    have HB := n_
    clear n_
    have n_ := Aside0.mk ((hb.block _ (blk_lt BK.out)).trans BK.out)
    clear BK
    have BK := n_
    clear n_
    have n_ := Aside0.mk ((hb.block _ (blk_lt BX.out)).trans BX.out)
    clear BX
    have BX := n_
    clear n_
    have n_ := Aside0.mk (Kd.C_below HX.out hb)
    clear HX
    have HX := n_
    clear n_
    have n_ := Aside0.mk (Kd.C_below HKA.out hb)
    clear HKA
    have HKA := n_
    clear n_
    clear hb
    obtain ⟨x0, x1, x2, x3⟩ := roll_cells BK.out
    obtain ⟨k0, k1, k2, k3⟩ := roll_cells BX.out
    by_cases hf0 : f = 0
    case neg =>
      have e1 : (f != 0) = true := bne_iff_ne.mpr hf0
      clear hf0
      go_wp2_with fail
      refine (awake_calls _).mono ?_
      rintro e wz ⟨rfl, hb⟩
      have HBz := Aside0.mk (below_then HB.out HB.out.size hb)
      clear hb
      go_wp2
      go_ret
      exact ⟨rfl, HBz.out⟩
    subst hf0
    have HFX := Aside0.mk (show rollFault p o (xs.map toT) (ns.map toN) = 0 from HF.out)
    have hms := HM.out
    unfold learnSpec at hms
    by_cases hs : soundOf p o (xs.map toT) (ns.map toN) = 0
    case neg =>
      rw [if_neg hs, sound_nine HFX.out hs] at hms
      subst hms
      simp only [List.length_nil]
      clear hs HM
      go_wp2_with fail
      refine (awake_calls _).mono ?_
      rintro e wz ⟨rfl, hb⟩
      have HBz := Aside0.mk (below_then HB.out HB.out.size hb)
      clear hb
      go_wp2
      go_ret
      exact ⟨rfl, HBz.out⟩
    rw [if_pos hs] at hms
    have HS2 := Aside0.mk (sound_zero hs).2
    obtain ⟨kb, hkb⟩ : ∃ kb, (List.range (xs.map toT).length).map (knownAt (xs.map toT)) = kb := ⟨_, rfl⟩
    rw [hkb] at hms
    have HBK := Aside0.mk hkb
    obtain rfl := hms.symm
    have HBL := Aside0.mk (show kb.length = xs.length by rw [← hkb]; simp)
    simp only at HKB ⊢
    clear hs hms hkb HM
    have e1 : ((ka.length : Int) != (ts.length : Int)) = false := bne_eq_false_iff_eq.mpr (by have := HAL.out; omega)
    have e2 : ((kb.length : Int) != (xs.length : Int)) = false := bne_eq_false_iff_eq.mpr (by have := HBL.out; omega)
    go_wp2_with fail
    have HKW := Aside0.mk (fun (i : Nat) (hi : i < ts.length) => known_narrow HNR.out HRO.out.ok (rollOk_of HFX.out).ok HS2.out (by rw [List.length_map]; exact hi))
    clear e1 e2
    clear x0 x1 x2 x3 k0 k1 k2 k3
    go_loopg [17] ka.length (fun kq v17 w' => ∃ i : Int, v17 = .int .i64 i ∧ Aside0 (0 ≤ i ∧ kq + i.toNat = ka.length) ∧ Aside0 (Kd.C k51 w' AL ka.length ka) ∧ Aside0 (Kd.C k51 w' AM kb.length kb) ∧ Aside0 (Below w.heap.size w w'))
    case atStart => exact ⟨0, rfl, ⟨by simp⟩, HKA, HKB, HB⟩
    case round =>
      clear HKA HKB HB
      obtain ⟨i, rfl, HI, HKA, HKB, HB⟩ := hrel
      rename World => W1
      by_cases hlt : i < (ka.length : Int)
      case neg =>
        have t0 : decide (i < (ka.length : Int)) = false := decide_eq_false hlt
        clear hlt
        go_wp2_with fail
        refine (awake_calls _).mono ?_
        rintro e wz ⟨rfl, hb⟩
        have HBz := Aside0.mk (below_then HB.out HB.out.size hb)
        clear hb
        go_wp2
        go_ret
        exact ⟨rfl, HBz.out⟩
      case pos =>
        have t0 : decide (i < (ka.length : Int)) = true := decide_eq_true hlt
        have i0 : 0 ≤ i := HI.out.1
        have hib : i < (kb.length : Int) := by have h := HNR.out.1; rw [List.length_map, List.length_map] at h; have := HAL.out; have := HBL.out; omega
        obtain ⟨pa, hA, u0, u1, u2, u3⟩ := at_T51 HKA.out i i0 hlt
        obtain ⟨pb, hB, v0, v1, v2, v3⟩ := at_T51 HKB.out i i0 hib
        cases hA
        cases hB
        have hit : i.toNat < ts.length := by have := HAL.out; omega
        have hkw := HKW.out i.toNat hit
        have ea : rd_T51 ka i = knownAt (ts.map toT) i.toNat := by rw [← HA.out]; unfold rd_T51; simp [hit]
        have eb : rd_T51 kb i = knownAt (xs.map toT) i.toNat := by rw [← HBK.out]; unfold rd_T51; have hix : i.toNat < xs.length := (by have := HBL.out; omega); simp [hix]
        rw [← ea, ← eb] at hkw
        obtain ⟨a, ha⟩ : ∃ a, rd_T51 ka i = a := ⟨_, rfl⟩
        obtain ⟨b, hb⟩ : ∃ b, rd_T51 kb i = b := ⟨_, rfl⟩
        rw [ha] at u0 u1 u2 u3 hkw
        rw [hb] at v0 v1 v2 v3 hkw
        have c1 : decide (b.f0.f0 < a.f0.f0) = false := decide_eq_false (by omega)
        have c2' : decide (a.f0.f1 < b.f0.f1) = false := decide_eq_false (by omega)
        have c3' : decide (b.f1.f0 < a.f1.f0) = false := decide_eq_false (by omega)
        have c4 : decide (a.f1.f1 < b.f1.f1) = false := decide_eq_false (by omega)
        have HLT := Aside0.mk hlt
        have HW := Aside0.mk (show wrap64 (i + 1) = i + 1 by unfold wrap64; have := HAL.out; have := HTS.out; omega)
        replace i0 := eq_true i0
        replace hlt := eq_true hlt
        replace hib := eq_true hib
        clear ha hb ea eb hkw hit
        go_wp2
        go_quiet (fail)
        go_wp2
        go_roundg (gk - 1)
        case measure => have := HI.out; have := HLT.out; omega
        case rel => exact ⟨i + 1, by first | rfl | rw [HW.out], ⟨by have := HI.out; have := HLT.out; omega⟩, ⟨Kd.C_drewN HKA.out _⟩, ⟨Kd.C_drewN HKB.out _⟩, ⟨pw_below_drewN HB.out _⟩⟩
end Go.Proofs.Ythpheknchikodaa.P
