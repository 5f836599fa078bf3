/- Contracts of functions that the laws reach, part Xh2. Conditions: each theorem names its own. -/
import Derived.Test.YthpheknchikodaaXb13
import Derived.Test.YthpheknchikodaaXb14
import Derived.Test.YthpheknchikodaaXh1
/- The walk of the reference's Learn: what is known of each term, by its words. Conditions: at most 45 terms. -/
namespace Go.Proofs.Ythpheknchikodaa.P
open Go.RowKit Go.Proofs.YthpheknchikodaaW.PrintWords Go.Proofs.YthpheknchikodaaW.PrintLast
attribute [local go_sem] max2_int min2_int max_two min_two
set_option linter.unusedVariables false
set_option linter.unusedSimpArgs false

def rKnownAt (ts : List S54) (i : Nat) : S117 := ⟨⟨(kAcc (ts.map toT) i).1, (rd_T54 ts i).f2.f1⟩, ⟨(rd_T54 ts i).f3.f0, (kAcc (ts.map toT) i).2⟩⟩
def rKnown (ts : List S54) : List S117 := (List.range ts.length).map (rKnownAt ts)
theorem tAt_rd (ts : List S54) (i : Int) (h : i.toNat < ts.length) : tAt (ts.map toT) i.toNat = toT (rd_T54 ts i) := by
  unfold tAt rd_T54
  simp [List.getD_eq_getElem?_getD, h]
theorem kStep_rd (ts : List S54) (i k : Int) (hi : i.toNat < ts.length) (hk : k.toNat < ts.length) (a b : Int) :
    kStep (ts.map toT) i.toNat (a, b) k.toNat = if k.toNat = i.toNat ∨ (rd_T54 ts k).f1 ≠ (rd_T54 ts i).f1 then (a, b) else if befB (toT (rd_T54 ts k)) (toT (rd_T54 ts i)) = true then (if a < (rd_T54 ts k).f3.f0 then (rd_T54 ts k).f3.f0 else a, b) else (a, if (rd_T54 ts k).f2.f1 < b then (rd_T54 ts k).f2.f1 else b) := by
  unfold kStep
  rw [tAt_rd ts i hi, tAt_rd ts k hk]
  have e1 : ∀ x y : Int, max x y = if x < y then y else x := fun x y => by omega
  have e2 : ∀ x y : Int, min x y = if y < x then y else x := fun x y => by omega
  simp only [e1, e2]
  rfl
theorem at_T54' {w w1 : World} {ad : Addr} {ts : List S54} {t : S54} (h : Kd.C k54 w (some ad) ts.length ts) (hb : Below w.heap.size w w1) (i : Int) (h0 : 0 ≤ i) (h1 : i < ts.length) (ht : rd_T54 ts i = t) : w1.cell? (ad.add (i.toNat * 6)) = some (.int .i64 t.f0) ∧ w1.cell? ⟨(ad.add (i.toNat * 6)).block, (ad.add (i.toNat * 6)).off + 1, none⟩ = some (.int .i64 t.f1) ∧ w1.cell? ⟨(ad.add (i.toNat * 6)).block, (ad.add (i.toNat * 6)).off + 2, none⟩ = some (.int .i64 t.f2.f0) ∧ w1.cell? ⟨(ad.add (i.toNat * 6)).block, (ad.add (i.toNat * 6)).off + 3, none⟩ = some (.int .i64 t.f2.f1) ∧ w1.cell? ⟨(ad.add (i.toNat * 6)).block, (ad.add (i.toNat * 6)).off + 4, none⟩ = some (.int .i64 t.f3.f0) ∧ w1.cell? ⟨(ad.add (i.toNat * 6)).block, (ad.add (i.toNat * 6)).off + 5, none⟩ = some (.int .i64 t.f3.f1) := by
  obtain ⟨ad', hA', q⟩ := at_T54 (Kd.C_below h hb) i h0 h1
  obtain rfl : ad = ad' := by injection hA'
  rw [ht] at q
  exact q
def accFrom (ts : List S54) (i k : Int) (a : Int × Int) : Int × Int := (List.range' k.toNat (ts.length - k.toNat)).foldl (kStep (ts.map toT) i.toNat) a
theorem acc_step (ts : List S54) (i k : Int) (hk : 0 ≤ k) (hkl : k.toNat < ts.length) (a : Int × Int) : accFrom ts i k a = accFrom ts i (k + 1) (kStep (ts.map toT) i.toNat a k.toNat) := by
  unfold accFrom
  rw [show ts.length - k.toNat = (ts.length - (k + 1).toNat) + 1 by omega, List.range'_succ, List.foldl_cons, show (k + 1).toNat = k.toNat + 1 by omega]
set_option maxHeartbeats 8000000 in
set_option maxRecDepth 100000 in
theorem rLearn_calls (p o : Int) (A2 : Option Addr) (c2 : Nat) (ts : List S54) (A3 : Option Addr) (c3 : Nat) (ns : List S88) (w : World) (hr2 : Kd.C k54 w A2 ts.length ts) (hts : ts.length ≤ 45) :
    Calls Try.prog 50 #[.agg #[.int .i64 p, .int .i64 o, .slice A2 ts.length c2, .slice A3 ns.length c3]] w fun e w' => ∃ (A : Option Addr) (c : Nat), e = .returned (.slice A ts.length c) ∧ Kd.C k117 w' A ts.length (rKnown ts) ∧ Below w.heap.size w w' := by
  have hu25 := Try.underlying25
  have hu54 := Try.underlying54
  have hu52 := Try.underlying52
  have hu117 := Try.underlying117
  have hu96 := Try.underlying96
  have HR2 := Aside0.mk hr2
  have HTS := Aside0.mk hts
  have HB0 := Aside0.mk (below_alloc (Below.refl w.heap.size w) (.cells #[.int .i64 p, .int .i64 o, .slice A2 ts.length c2, .slice A3 ns.length c3] 25))
  have BK0 := Aside0.mk (blk_new w (.cells #[.int .i64 p, .int .i64 o, .slice A2 ts.length c2, .slice A3 ns.length c3] 25))
  obtain ⟨x0, x1, x2, x3⟩ := roll_cells BK0.out
  clear hr2 hts
  go_enter Try.func50, Try.ntmps50
  go_wp2
  clear x0 x1 x2 x3
  go_loopg [3, 4] ts.length (fun kq v3 v4 w' => ∃ i : Int, v4 = .int .i64 i ∧ Aside0 (0 ≤ i ∧ kq + i.toNat = ts.length) ∧ Aside0 (Kd.R k117 117 w' w.heap.size (fun _ => True) v3 ((List.range i.toNat).map (rKnownAt ts))) ∧ Aside0 (w'.heap[w.heap.size]? = some (.cells #[.int .i64 p, .int .i64 o, .slice A2 ts.length c2, .slice A3 ns.length c3] 25 (0, 0))) ∧ Aside0 (Below w.heap.size w w'))
  case atStart => exact ⟨0, rfl, ⟨by simp⟩, ⟨Kd.R_nil _ _ _ _ _⟩, BK0, HB0⟩
  case round =>
    clear BK0 HB0
    obtain ⟨i, rfl, HI, HO, BK, HB⟩ := hrel
    rename World => W1
    obtain ⟨x0, x1, x2, x3⟩ := roll_cells BK.out
    by_cases hlt : i < (ts.length : Int)
    case neg =>
      have t0 : decide (i < (ts.length : Int)) = false := decide_eq_false hlt
      have ho := HO.out
      rw [show i.toNat = ts.length by have := HI.out; omega] at ho
      obtain ⟨A, c, e⟩ := Kd.R_slice ho
      have hlen : ((List.range ts.length).map (rKnownAt ts)).length = ts.length := by simp
      rw [hlen] at e
      subst e
      have hC := (Kd.R_reads' ho).2.2
      rw [hlen] at hC
      have HC := Aside0.mk hC
      clear hlt ho hC hlen HO
      go_wp2
      go_ret
      exact ⟨A, c, rfl, HC.out, HB.out⟩
    case pos =>
      have t0 : decide (i < (ts.length : Int)) = true := decide_eq_true hlt
      have i0 : 0 ≤ i := HI.out.1
      have HW := Aside0.mk (show wrap64 (i + 1) = i + 1 by unfold wrap64; have := HTS.out; omega)
      have HLT := Aside0.mk hlt
      obtain ⟨g1, rfl⟩ : ∃ g1, gk = g1 + 1 := ⟨gk - 1, by have := HI.out; omega⟩
      obtain ⟨ad, hA, y0, y1, y2, y3, y4, y5⟩ := at_T54 (Kd.C_below HR2.out HB.out) i i0 hlt
      obtain ⟨t, ht⟩ : ∃ t, rd_T54 ts i = t := ⟨_, rfl⟩
      rw [ht] at y0 y1 y2 y3 y4 y5
      have HT := Aside0.mk ht
      cases hA
      have HB1 := Aside0.mk (below_alloc HB.out (.cells #[.int .i64 t.f0, .int .i64 t.f1, .int .i64 t.f2.f0, .int .i64 t.f2.f1, .int .i64 t.f3.f0, .int .i64 t.f3.f1] 54))
      have BK1 := Aside0.mk (blk_alloc BK.out (.cells #[.int .i64 t.f0, .int .i64 t.f1, .int .i64 t.f2.f0, .int .i64 t.f2.f1, .int .i64 t.f3.f0, .int .i64 t.f3.f1] 54))
      have BT1 := Aside0.mk (blk_new W1 (.cells #[.int .i64 t.f0, .int .i64 t.f1, .int .i64 t.f2.f0, .int .i64 t.f2.f1, .int .i64 t.f3.f0, .int .i64 t.f3.f1] 54))
      have HO1 := Aside0.mk (Kd.R_alloc (o := .cells #[.int .i64 t.f0, .int .i64 t.f1, .int .i64 t.f2.f0, .int .i64 t.f2.f1, .int .i64 t.f3.f0, .int .i64 t.f3.f1] 54) HO.out)
      have HGE := Aside0.mk (show w.heap.size < W1.heap.size from blk_lt BK.out)
      have HNE := Aside0.mk (show W1.heap.size ≠ w.heap.size by have := blk_lt BK.out; omega)
      clear ht
      replace i0 := eq_true i0
      replace hlt := eq_true hlt
      go_wp2
      clear x0 x1 x2 x3 y0 y1 y2 y3 y4 y5
      have HE := Aside0.mk (show accFrom ts i 0 (t.f2.f0, t.f3.f1) = kAcc (ts.map toT) i.toNat by
        unfold accFrom kAcc
        rw [tAt_rd ts i (by have := HI.out; have := HLT.out; omega), HT.out, List.length_map]
        rfl)
      go_loopg [6] ts.length (fun kq v6 w' => ∃ j a b : Int, v6 = .int .i64 j ∧ Aside0 (0 ≤ j ∧ kq + j.toNat = ts.length) ∧ Aside0 (accFrom ts i j (a, b) = kAcc (ts.map toT) i.toNat) ∧ Aside0 (Kd.R k117 117 w' w.heap.size (fun _ => True) u3 ((List.range i.toNat).map (rKnownAt ts))) ∧ Aside0 (w'.heap[w.heap.size]? = some (.cells #[.int .i64 p, .int .i64 o, .slice (some ad) ts.length c2, .slice A3 ns.length c3] 25 (0, 0))) ∧ Aside0 (w'.heap[W1.heap.size]? = some (.cells #[.int .i64 t.f0, .int .i64 t.f1, .int .i64 a, .int .i64 t.f2.f1, .int .i64 t.f3.f0, .int .i64 b] 54 (0, 0))) ∧ Aside0 (Below w.heap.size w w'))
      case atStart => exact ⟨0, _, _, rfl, ⟨by simp⟩, HE, HO1, BK1, BT1, HB1⟩
      case round =>
        clear HO1 BK1 BT1 HB1 HO BK HB HE
        obtain ⟨j, a, b, rfl, HJ, HE, HO, BK, BT, HB⟩ := hrel
        rename World => W2
        have hne1 := HNE.out
        have hne2 := HNE.out.symm
        obtain ⟨x0, x1, x2, x3⟩ := roll_cells BK.out
        by_cases hjt : j < (ts.length : Int)
        case neg =>
          have t1 : decide (j < (ts.length : Int)) = false := decide_eq_false hjt
          have he : (a, b) = kAcc (ts.map toT) i.toNat := by
            rw [← HE.out]
            unfold accFrom
            rw [show ts.length - j.toNat = 0 by omega]
            rfl
          have HN := Aside0.mk (show (List.range i.toNat).map (rKnownAt ts) ++ [(⟨⟨a, t.f2.f1⟩, ⟨t.f3.f0, b⟩⟩ : S117)] = (List.range (i + 1).toNat).map (rKnownAt ts) by
            rw [show (i + 1).toNat = i.toNat + 1 by have := HI.out; omega, List.range_succ, List.map_append]
            congr 1
            show [_] = [rKnownAt ts i.toNat]
            unfold rKnownAt
            rw [← he, show rd_T54 ts ((i.toNat : Nat) : Int) = t by rw [show ((i.toNat : Nat) : Int) = i by have := HI.out; omega]; exact HT.out])
          obtain ⟨z0, z1, z2, z3, z4, z5⟩ := six_cells BT.out
          clear hjt he HE
          go_wp2_with ((with_reducible refine gate_builtin (b := .append) (xs := #[.tmp 67, .tmp 73]) rfl ?_); at_builtin; refine Kd.R_append k117 (w0 := w) w.heap.size rfl (.tmp 67) (.tmp 73) 96 117 (.agg #[(.int .i64 0), (.int .i64 0), (.int .i64 0), (.int .i64 0)]) 32 rfl Try.underlying96 info117 rfl (by decide) (by omega) u3 ((List.range i.toNat).map (rKnownAt ts)) (⟨⟨a, t.f2.f1⟩, ⟨t.f3.f0, b⟩⟩ : S117) [.int .i64 a, .int .i64 t.f2.f1, .int .i64 t.f3.f0, .int .i64 b] (fun _ => True) (fun _ => False) rfl rfl ?aP (fun _ hk => hk.elim) ?aF ?aO ?aB ?aS ?aL ?_; (case aP => exact k117_mkM _ _ _ (⟨⟨a, t.f2.f1⟩, ⟨t.f3.f0, b⟩⟩ : S117)); (case aB => exact HB.out); (case aF => exact (fun _ _ => trivial)); (case aO => exact HO.out); (case aS => exact below_size HB.out); (case aL => rw [List.length_map, List.length_range]; have := HI.out; have := HTS.out; omega); intro v5 w5 ho hb hg hat; rw [HN.out] at ho; have HO5 := Aside0.mk ho; have BK5 := Aside0.mk (blk_grown BK.out hg (Kd.R_ne HO.out BK.out (by decide))); have HB5 := Aside0.mk hb; clear ho hb hg hat)
          go_roundg g1
          case measure => have := HI.out; have := HLT.out; omega
          case rel => exact ⟨i + 1, by first | rfl | rw [HW.out], ⟨by have := HI.out; have := HLT.out; omega⟩, HO5, BK5, HB5⟩
        case pos =>
          have t1 : decide (j < (ts.length : Int)) = true := decide_eq_true hjt
          have j0 : 0 ≤ j := HJ.out.1
          have HWJ := Aside0.mk (show wrap64 (j + 1) = j + 1 by unfold wrap64; have := HTS.out; omega)
          have HJT := Aside0.mk hjt
          obtain ⟨ad', hA', q0, q1, q2, q3, q4, q5⟩ := at_T54 (Kd.C_below HR2.out HB.out) j j0 hjt
          obtain rfl : ad = ad' := by injection hA'
          obtain ⟨u, hu⟩ : ∃ u, rd_T54 ts j = u := ⟨_, rfl⟩
          rw [hu] at q0 q1 q2 q3 q4 q5
          have he := HE.out
          rw [acc_step ts i j j0 (by omega), kStep_rd ts i j (by have := HI.out; have := HLT.out; omega) (by omega), HT.out, hu] at he
          have HBd := Aside0.mk (below_alloc HB.out (.cells #[.int .i64 u.f0, .int .i64 u.f1, .int .i64 u.f2.f0, .int .i64 u.f2.f1, .int .i64 u.f3.f0, .int .i64 u.f3.f1] 54))
          have BKd := Aside0.mk (blk_alloc BK.out (.cells #[.int .i64 u.f0, .int .i64 u.f1, .int .i64 u.f2.f0, .int .i64 u.f2.f1, .int .i64 u.f3.f0, .int .i64 u.f3.f1] 54))
          have BTd := Aside0.mk (blk_alloc BT.out (.cells #[.int .i64 u.f0, .int .i64 u.f1, .int .i64 u.f2.f0, .int .i64 u.f2.f1, .int .i64 u.f3.f0, .int .i64 u.f3.f1] 54))
          have BUd := Aside0.mk (blk_new W2 (.cells #[.int .i64 u.f0, .int .i64 u.f1, .int .i64 u.f2.f0, .int .i64 u.f2.f1, .int .i64 u.f3.f0, .int .i64 u.f3.f1] 54))
          have HOd := Aside0.mk (Kd.R_alloc (o := .cells #[.int .i64 u.f0, .int .i64 u.f1, .int .i64 u.f2.f0, .int .i64 u.f2.f1, .int .i64 u.f3.f0, .int .i64 u.f3.f1] 54) HO.out)
          have hne3 : W2.heap.size ≠ w.heap.size := by have := blk_lt BK.out; omega
          have hne4 := hne3.symm
          have hne5 : W2.heap.size ≠ W1.heap.size := by have := blk_lt BT.out; omega
          have hne6 := hne5.symm
          obtain ⟨z0, z1, z2, z3, z4, z5⟩ := six_cells BTd.out
          obtain ⟨u0, u1, u2, u3', u4, u5⟩ := six_cells BUd.out
          have HNS := Aside0.mk (And.intro hne1 (And.intro hne3 hne5))
          clear hA' hu
          replace j0 := eq_true j0
          replace hjt := eq_true hjt
          by_cases hji : j = i
          · have e1 : (j == i) = true := beq_iff_eq.mpr hji
            rw [if_pos (Or.inl (by rw [hji]))] at he
            have HE1 := Aside0.mk he
            clear he hji HE
            go_wp2
            go_roundg (gk - 1)
            case measure => have := HJ.out; have := HJT.out; have := HI.out; omega
            case rel => exact ⟨j + 1, a, b, by first | rfl | rw [HWJ.out], ⟨by have := HJ.out; have := HJT.out; have := HI.out; omega⟩, HE1, HOd, BKd, BTd, HBd⟩
          · have e1 : (j == i) = false := beq_eq_false_iff_ne.mpr hji
            by_cases hof : u.f1 = t.f1
            case neg =>
              have e2 : (u.f1 != t.f1) = true := bne_iff_ne.mpr hof
              rw [if_pos (Or.inr hof)] at he
              have HE1 := Aside0.mk he
              clear he hji hof HE
              go_wp2
              go_roundg (gk - 1)
              case measure => have := HJ.out; have := HJT.out; have := HI.out; omega
              case rel => exact ⟨j + 1, a, b, by first | rfl | rw [HWJ.out], ⟨by have := HJ.out; have := HJT.out; have := HI.out; omega⟩, HE1, HOd, BKd, BTd, HBd⟩
            case pos =>
              have e2 : (u.f1 != t.f1) = false := by rw [hof]; exact bne_self_eq_false _
              rw [if_neg (fun h => h.elim (fun h => hji (by have := HJ.out; have := HI.out; omega)) (fun h => h hof))] at he
              clear hji hof HE
              have HE1 := Aside0.mk he
              clear he
              obtain ⟨y0, y1, y2, y3, y4, y5⟩ := at_T54' HR2.out HBd.out i HI.out.1 HLT.out HT.out
              have x2' := pw_cell_below (below_alloc (Below.refl W2.heap.size W2) (.cells #[.int .i64 u.f0, .int .i64 u.f1, .int .i64 u.f2.f0, .int .i64 u.f2.f1, .int .i64 u.f3.f0, .int .i64 u.f3.f1] 54)) x2
              have i0' := eq_true (show 0 ≤ i from HI.out.1)
              have hlt' := eq_true HLT.out
              go_wp2
              have HBe := Aside0.mk (below_drew1 HBd.out)
              have BKe := Aside0.mk (show (W2.alloc (.cells #[.int .i64 u.f0, .int .i64 u.f1, .int .i64 u.f2.f0, .int .i64 u.f2.f1, .int .i64 u.f3.f0, .int .i64 u.f3.f1] 54)).drew.heap[w.heap.size]? = some (.cells #[.int .i64 p, .int .i64 o, .slice (some ad) ts.length c2, .slice A3 ns.length c3] 25 (0, 0)) from BKd.out)
              have BTe := Aside0.mk (show (W2.alloc (.cells #[.int .i64 u.f0, .int .i64 u.f1, .int .i64 u.f2.f0, .int .i64 u.f2.f1, .int .i64 u.f3.f0, .int .i64 u.f3.f1] 54)).drew.heap[W1.heap.size]? = some (.cells #[.int .i64 t.f0, .int .i64 t.f1, .int .i64 a, .int .i64 t.f2.f1, .int .i64 t.f3.f0, .int .i64 b] 54 (0, 0)) from BTd.out)
              have BUe := Aside0.mk (show (W2.alloc (.cells #[.int .i64 u.f0, .int .i64 u.f1, .int .i64 u.f2.f0, .int .i64 u.f2.f1, .int .i64 u.f3.f0, .int .i64 u.f3.f1] 54)).drew.heap[W2.heap.size]? = some (.cells #[.int .i64 u.f0, .int .i64 u.f1, .int .i64 u.f2.f0, .int .i64 u.f2.f1, .int .i64 u.f3.f0, .int .i64 u.f3.f1] 54 (0, 0)) from BUd.out)
              have HOe := Aside0.mk (Kd.R_drew HOd.out)
              clear HBd BKd BTd BUd HOd
              have HBd := HBe
              have BKd := BKe
              have BTd := BTe
              have BUd := BUe
              have HOd := HOe
              clear HBe BKe BTe BUe HOe
              refine start_ (n := 7) (S := fun w' => w'.cell? ⟨w.heap.size, 2, none⟩ = some (.slice (some ad) ts.length c2) ∧ w'.cell? ⟨W2.heap.size, 0, none⟩ = some (.int .i64 u.f0) ∧ w'.cell? ⟨W2.heap.size, 1, none⟩ = some (.int .i64 u.f1) ∧ w'.cell? ⟨W2.heap.size, 2, none⟩ = some (.int .i64 u.f2.f0) ∧ w'.cell? ⟨W2.heap.size, 3, none⟩ = some (.int .i64 u.f2.f1) ∧ w'.cell? ⟨W2.heap.size, 4, none⟩ = some (.int .i64 u.f3.f0) ∧ w'.cell? ⟨W2.heap.size, 5, none⟩ = some (.int .i64 u.f3.f1) ∧ w'.cell? (ad.add (i.toNat * 6)) = some (.int .i64 t.f0) ∧ w'.cell? ⟨(ad.add (i.toNat * 6)).block, (ad.add (i.toNat * 6)).off + 1, none⟩ = some (.int .i64 t.f1) ∧ w'.cell? ⟨(ad.add (i.toNat * 6)).block, (ad.add (i.toNat * 6)).off + 2, none⟩ = some (.int .i64 t.f2.f0) ∧ w'.cell? ⟨(ad.add (i.toNat * 6)).block, (ad.add (i.toNat * 6)).off + 3, none⟩ = some (.int .i64 t.f2.f1) ∧ w'.cell? ⟨(ad.add (i.toNat * 6)).block, (ad.add (i.toNat * 6)).off + 4, none⟩ = some (.int .i64 t.f3.f0) ∧ w'.cell? ⟨(ad.add (i.toNat * 6)).block, (ad.add (i.toNat * 6)).off + 5, none⟩ = some (.int .i64 t.f3.f1)) (ds := [6]) #[false, false, false, false, false, false, false] (by kernel_rfl) rfl rfl ⟨x2', u0, u1, u2, u3', u4, u5, y0, y1, y2, y3, y4, y5⟩ (fun hHeld => ?_)
              generalize (W2.alloc (.cells #[.int .i64 u.f0, .int .i64 u.f1, .int .i64 u.f2.f0, .int .i64 u.f2.f1, .int .i64 u.f3.f0, .int .i64 u.f3.f1] 54)).drew = wd at HBd BKd BTd BUd HOd hHeld ⊢
              refine pure_ (i := 1) (N := some 43) (v := ?_) (a' := ?_) #[false, true, false, false, false, false, false] rfl rfl (by kernel_rfl) (fun _ _ _ h => h) (Or.inl ⟨by rfl, ?_⟩) ?_ ?_
              rotate_left
              · intro w'
                go_simp
                with_reducible rfl
              rotate_left
              · simp only [Act.put, List.setIfInBounds_toArray, List.set_cons_zero, List.set_cons_succ, i64_w, i32_w]
                rfl
              refine pure_ (i := 3) (N := some 45) (v := ?_) (a' := ?_) #[false, true, false, true, false, false, false] rfl rfl (by kernel_rfl) (fun _ _ _ h => h) (Or.inl ⟨by rfl, ?_⟩) ?_ ?_
              rotate_left
              · intro w'
                go_simp
                with_reducible rfl
              rotate_left
              · simp only [Act.put, List.setIfInBounds_toArray, List.set_cons_zero, List.set_cons_succ, i64_w, i32_w]
                rfl
              refine take_ (i := 0) (N := some 42) (v := ?_) (a' := ?_) #[true, true, false, true, false, false, false] rfl rfl (by kernel_rfl) (fun _ _ _ h => h) (Or.inl ⟨by rfl, ?_⟩) hHeld ?_ ?_
              rotate_left
              · rintro w' ⟨s0, s1, s2, s3, s4, s5, s6, s7, s8, s9, s10, s11, s12⟩
                go_simp
                with_reducible rfl
              rotate_left
              · simp only [Act.put, List.setIfInBounds_toArray, List.set_cons_zero, List.set_cons_succ, i64_w, i32_w]
                rfl
              refine take_ (i := 2) (N := some 44) (v := ?_) (a' := ?_) #[true, true, true, true, false, false, false] rfl rfl (by kernel_rfl) (fun _ _ _ h => h) (Or.inl ⟨by rfl, ?_⟩) hHeld ?_ ?_
              rotate_left
              · rintro w' ⟨s0, s1, s2, s3, s4, s5, s6, s7, s8, s9, s10, s11, s12⟩
                go_simp
                with_reducible rfl
              rotate_left
              · simp only [Act.put, List.setIfInBounds_toArray, List.set_cons_zero, List.set_cons_succ, i64_w, i32_w]
                rfl
              refine pure_ (i := 4) (N := some 46) (v := ?_) (a' := ?_) #[true, true, true, true, true, false, false] rfl rfl (by kernel_rfl) (fun _ _ _ h => h) (Or.inl ⟨by rfl, ?_⟩) ?_ ?_
              rotate_left
              · intro w'
                go_simp
                with_reducible rfl
              rotate_left
              · simp only [Act.put, List.setIfInBounds_toArray, List.set_cons_zero, List.set_cons_succ, i64_w, i32_w]
                rfl
              refine take_ (i := 5) (N := some 47) (v := ?_) (a' := ?_) #[true, true, true, true, true, true, false] rfl rfl (by kernel_rfl) (fun _ _ _ h => h) (Or.inl ⟨by rfl, ?_⟩) hHeld ?_ ?_
              rotate_left
              · rintro w' ⟨s0, s1, s2, s3, s4, s5, s6, s7, s8, s9, s10, s11, s12⟩
                go_simp
                with_reducible rfl
              rotate_left
              · simp only [Act.put, List.setIfInBounds_toArray, List.set_cons_zero, List.set_cons_succ, i64_w, i32_w]
                rfl
              refine last_ (i := 6) (N := some 48) #[true, true, true, true, true, true, true] rfl rfl (by kernel_rfl) (by decide) (fun K hK => ?_)
              refine goes_ Try.func71 (by kernel_rfl) rfl #[.agg #[.int .i64 u.f0, .int .i64 u.f1, .int .i64 u.f2.f0, .int .i64 u.f2.f1, .int .i64 u.f3.f0, .int .i64 u.f3.f1], .agg #[.int .i64 t.f0, .int .i64 t.f1, .int .i64 t.f2.f0, .int .i64 t.f2.f1, .int .i64 t.f3.f0, .int .i64 t.f3.f1]] (by rfl) rfl rfl (by simp only [List.map_toArray, List.map_cons, List.map_nil]; rfl) ?_
              refine (rbefore_calls u t _).mono ?_
              rintro e w3 ⟨rfl, hb⟩
              refine ⟨_, rfl, ?_⟩
              have n_ := Aside0.mk (below_then HBd.out HBd.out.size hb)
              clear HBd
              have HBd := n_
              clear n_
              have n_ := Aside0.mk ((hb.block _ (blk_lt BKd.out)).trans BKd.out)
              clear BKd
              have BKd := n_
              clear n_
              have n_ := Aside0.mk ((hb.block _ (blk_lt BTd.out)).trans BTd.out)
              clear BTd
              have BTd := n_
              clear n_
              have n_ := Aside0.mk ((hb.block _ (blk_lt BUd.out)).trans BUd.out)
              clear BUd
              have BUd := n_
              clear n_
              have n_ := Aside0.mk (Kd.R_below HOd.out hb)
              clear HOd
              have HOd := n_
              clear n_
              clear hb
              refine hK.out _ _ ?_
              clear hK K
              refine norm_ (a' := ?_) ?_ ?_
              rotate_left
              · show Act.put _ (some 48) _ = _
                simp only [Act.put, List.setIfInBounds_toArray, List.set_cons_zero, List.set_cons_succ, i64_w, i32_w]
                rfl
              refine done_ (by kernel_rfl) ?_
              clear x0 x1 x2 x3 x2' y0 y1 y2 y3 y4 y5 q0 q1 q2 q3 q4 q5 u0 u1 u2 u3' u4 u5 z0 z1 z2 z3 z4 z5 hHeld
              have hne1 := HNE.out
              have hne2 := HNE.out.symm
              obtain ⟨z0, z1, z2, z3, z4, z5⟩ := six_cells BTd.out
              obtain ⟨u0, u1, u2, u3', u4, u5⟩ := six_cells BUd.out
              have zf2 := blk_frozen BTd.out 2
              have zf5 := blk_frozen BTd.out 5
              have hge : w.heap.size ≤ W1.heap.size := by have := HGE.out; omega
              have he := HE1.out
              cases hbf : befB (toT u) (toT t)
              · rw [hbf, if_neg (by decide)] at he
                by_cases hm : u.f2.f1 < b
                case pos =>
                  have em : (u.f2.f1 < b) = True := eq_true hm
                  rw [if_pos hm] at he
                  have HE2 := Aside0.mk he
                  clear he HE1 hm
                  go_wp2
                  go_roundg (gk - 1)
                  case measure => have := HJ.out; have := HJT.out; have := HI.out; omega
                  case rel => exact ⟨j + 1, a, _, by first | rfl | rw [HWJ.out], ⟨by have := HJ.out; have := HJT.out; have := HI.out; omega⟩, HE2, ⟨Kd.R_mono (Kd.R_far (p := ⟨W1.heap.size, 5, none⟩) (Kd.R_types HOd.out BTd.out (by decide)) (fun _ hk => hk.2) _) (fun _ _ => trivial)⟩, ⟨blk_far BKd.out hne2 _⟩, ⟨blk_put BTd.out 5 _ rfl⟩, ⟨below_set HBd.out hge⟩⟩
                case neg =>
                  have em : (u.f2.f1 < b) = False := eq_false hm
                  rw [if_neg hm] at he
                  have HE2 := Aside0.mk he
                  clear he HE1 hm
                  go_wp2
                  go_roundg (gk - 1)
                  case measure => have := HJ.out; have := HJT.out; have := HI.out; omega
                  case rel => exact ⟨j + 1, a, _, by first | rfl | rw [HWJ.out], ⟨by have := HJ.out; have := HJT.out; have := HI.out; omega⟩, HE2, ⟨Kd.R_mono (Kd.R_far (p := ⟨W1.heap.size, 5, none⟩) (Kd.R_types HOd.out BTd.out (by decide)) (fun _ hk => hk.2) _) (fun _ _ => trivial)⟩, ⟨blk_far BKd.out hne2 _⟩, ⟨blk_put BTd.out 5 _ rfl⟩, ⟨below_set HBd.out hge⟩⟩
              · rw [hbf, if_pos rfl] at he
                by_cases hm : a < u.f3.f0
                case pos =>
                  have em : (a < u.f3.f0) = True := eq_true hm
                  rw [if_pos hm] at he
                  have HE2 := Aside0.mk he
                  clear he HE1 hm
                  go_wp2
                  go_roundg (gk - 1)
                  case measure => have := HJ.out; have := HJT.out; have := HI.out; omega
                  case rel => exact ⟨j + 1, _, b, by first | rfl | rw [HWJ.out], ⟨by have := HJ.out; have := HJT.out; have := HI.out; omega⟩, HE2, ⟨Kd.R_mono (Kd.R_far (p := ⟨W1.heap.size, 2, none⟩) (Kd.R_types HOd.out BTd.out (by decide)) (fun _ hk => hk.2) _) (fun _ _ => trivial)⟩, ⟨blk_far BKd.out hne2 _⟩, ⟨blk_put BTd.out 2 _ rfl⟩, ⟨below_set HBd.out hge⟩⟩
                case neg =>
                  have em : (a < u.f3.f0) = False := eq_false hm
                  rw [if_neg hm] at he
                  have HE2 := Aside0.mk he
                  clear he HE1 hm
                  go_wp2
                  go_roundg (gk - 1)
                  case measure => have := HJ.out; have := HJT.out; have := HI.out; omega
                  case rel => exact ⟨j + 1, _, b, by first | rfl | rw [HWJ.out], ⟨by have := HJ.out; have := HJT.out; have := HI.out; omega⟩, HE2, ⟨Kd.R_mono (Kd.R_far (p := ⟨W1.heap.size, 2, none⟩) (Kd.R_types HOd.out BTd.out (by decide)) (fun _ hk => hk.2) _) (fun _ _ => trivial)⟩, ⟨blk_far BKd.out hne2 _⟩, ⟨blk_put BTd.out 2 _ rfl⟩, ⟨below_set HBd.out hge⟩⟩
end Go.Proofs.Ythpheknchikodaa.P

/- The walk of the reference's Right: are dates right, by its words. Conditions: at most 45 terms. -/
namespace Go.Proofs.Ythpheknchikodaa.P
open Go.RowKit Go.Proofs.YthpheknchikodaaW.PrintWords Go.Proofs.YthpheknchikodaaW.PrintLast
set_option linter.unusedVariables false
set_option linter.unusedSimpArgs false

def allFrom (f : Nat → Bool) (i n : Nat) : Bool := (List.range' i (n - i)).all f
theorem allFrom_step (f : Nat → Bool) {i n : Nat} (h : i < n) : allFrom f i n = (f i && allFrom f (i + 1) n) := by
  unfold allFrom
  rw [show n - i = (n - (i + 1)) + 1 by omega, List.range'_succ, List.all_cons]
theorem allFrom_end (f : Nat → Bool) {i n : Nat} (h : n ≤ i) : allFrom f i n = true := by
  unfold allFrom
  rw [show n - i = 0 by omega]
  rfl
/-- Do dates of a term overlap those of another one of its office? -/
def overB (t u : S59) (d e : S107) : Bool := decide (u.f1 = t.f1) && (decide (d.f0 < e.f1) && decide (e.f0 < d.f1))
def dAt (ds : List S107) (i : Nat) : S107 := ds.getD i z107
def dateOk (ts : List S59) (ds : List S107) (i : Nat) : Bool := withinB (dAt ds i).f0 (tAt ts i).f2.f0 (tAt ts i).f2.f1 && (withinB (dAt ds i).f1 (tAt ts i).f3.f0 (tAt ts i).f3.f1 && allFrom (fun k => !overB (tAt ts i) (tAt ts k) (dAt ds i) (dAt ds k)) 0 i)
def rightB (ts : List S59) (ds : List S107) : Bool := decide (ds.length = ts.length) && allFrom (dateOk ts ds) 0 ts.length
theorem two_new (w : World) (a b : Obj) : ((w.alloc a).alloc b).heap[w.heap.size + 1]? = some b := by
  have h := blk_new (w.alloc a) b
  rw [World.size_alloc] at h
  exact h
theorem dAt_rd (ds : List S102) (i : Int) (h : i.toNat < ds.length) : dAt (ds.map toD) i.toNat = toD (rd_T102 ds i) := by
  unfold dAt rd_T102
  simp [List.getD_eq_getElem?_getD, h]
set_option maxHeartbeats 8000000 in
set_option maxRecDepth 100000 in
theorem Right_calls (p o : Int) (A2 : Option Addr) (c2 : Nat) (ts : List S54) (A3 : Option Addr) (c3 : Nat) (ns : List S88) (A : Option Addr) (c : Nat) (ds : List S102) (w : World) (hr2 : Kd.C k54 w A2 ts.length ts) (hts : ts.length ≤ 45) (hds : Kd.C k102 w A ds.length ds) :
    Calls Try.prog 47 #[.agg #[.int .i64 p, .int .i64 o, .slice A2 ts.length c2, .slice A3 ns.length c3], .slice A ds.length c] w fun e w' => e = .returned (.bool (rightB (ts.map toT) (ds.map toD))) ∧ Below w.heap.size w w' := by
  have hu25 := Try.underlying25
  have hu54 := Try.underlying54
  have hu52 := Try.underlying52
  have hu102 := Try.underlying102
  have HR2 := Aside0.mk hr2
  have HTS := Aside0.mk hts
  have HDS := Aside0.mk hds
  have HB0 := Aside0.mk (below_alloc (Below.refl w.heap.size w) (.cells #[.int .i64 p, .int .i64 o, .slice A2 ts.length c2, .slice A3 ns.length c3] 25))
  have BK0 := Aside0.mk (blk_new w (.cells #[.int .i64 p, .int .i64 o, .slice A2 ts.length c2, .slice A3 ns.length c3] 25))
  obtain ⟨x0, x1, x2, x3⟩ := roll_cells BK0.out
  obtain ⟨R, hR⟩ : ∃ R, rightB (ts.map toT) (ds.map toD) = R := ⟨_, rfl⟩
  rw [hR]
  unfold rightB at hR
  rw [List.length_map, List.length_map] at hR
  clear hr2 hts hds
  go_enter Try.func47, Try.ntmps47
  by_cases hlen : ds.length = ts.length
  case neg =>
    have e1 : ((ds.length : Int) != (ts.length : Int)) = true := bne_iff_ne.mpr (by omega)
    rw [decide_eq_false hlen, Bool.false_and] at hR
    subst hR
    clear hlen
    go_wp2
    go_ret
    exact ⟨rfl, HB0.out⟩
  have e1 : ((ds.length : Int) != (ts.length : Int)) = false := bne_eq_false_iff_eq.mpr (by omega)
  rw [decide_eq_true hlen, Bool.true_and] at hR
  have HLEN := Aside0.mk hlen
  have HR := Aside0.mk hR
  clear hlen hR
  go_wp2
  clear x0 x1 x2 x3
  go_loopg [5] ds.length (fun kq v5 w' => ∃ i : Int, v5 = .int .i64 i ∧ Aside0 (0 ≤ i ∧ kq + i.toNat = ds.length) ∧ Aside0 (allFrom (dateOk (ts.map toT) (ds.map toD)) i.toNat ts.length = R) ∧ Aside0 (w'.heap[w.heap.size]? = some (.cells #[.int .i64 p, .int .i64 o, .slice A2 ts.length c2, .slice A3 ns.length c3] 25 (0, 0))) ∧ Aside0 (Below w.heap.size w w'))
  case atStart => exact ⟨0, rfl, ⟨by simp⟩, HR, BK0, HB0⟩
  case round =>
    clear HR BK0 HB0
    obtain ⟨i, rfl, HI, HE, BK, HB⟩ := hrel
    rename World => W1
    obtain ⟨x0, x1, x2, x3⟩ := roll_cells BK.out
    by_cases hlt : i < (ds.length : Int)
    case neg =>
      have t0 : decide (i < (ds.length : Int)) = false := decide_eq_false hlt
      have he := HE.out
      rw [allFrom_end _ (by have := HI.out; have := HLEN.out; omega)] at he
      subst he
      clear hlt HE
      go_wp2
      go_ret
      exact ⟨rfl, HB.out⟩
    case pos =>
      have t0 : decide (i < (ds.length : Int)) = true := decide_eq_true hlt
      have i0 : 0 ≤ i := HI.out.1
      have HW := Aside0.mk (show wrap64 (i + 1) = i + 1 by unfold wrap64; have := HTS.out; have := HLEN.out; omega)
      have HLT := Aside0.mk hlt
      obtain ⟨g1, rfl⟩ : ∃ g1, gk = g1 + 1 := ⟨gk - 1, by have := HI.out; omega⟩
      have hlt2 : i < (ts.length : Int) := by have := HLEN.out; omega
      obtain ⟨ad, hA, y0, y1, y2, y3, y4, y5⟩ := at_T54 (Kd.C_below HR2.out HB.out) i i0 hlt2
      obtain ⟨bd, hB, z0, z1⟩ := at_T102 (Kd.C_below HDS.out HB.out) i i0 hlt
      obtain ⟨t, ht⟩ : ∃ t, rd_T54 ts i = t := ⟨_, rfl⟩
      obtain ⟨d, hd⟩ : ∃ d, rd_T102 ds i = d := ⟨_, rfl⟩
      rw [ht] at y0 y1 y2 y3 y4 y5
      rw [hd] at z0 z1
      have he := HE.out
      rw [allFrom_step _ (by omega)] at he
      unfold dateOk at he
      rw [tAt_rd ts i (by omega), dAt_rd ds i (by omega), ht, hd] at he
      have HE1 := Aside0.mk he
      have HT := Aside0.mk ht
      have HD := Aside0.mk hd
      cases hA
      cases hB
      clear ht hd he HE
      replace i0 := eq_true i0
      replace hlt := eq_true hlt
      replace hlt2 := eq_true hlt2
      go_wp2
      refine start_ (n := 13) (S := fun w' => w'.cell? ⟨w.heap.size, 2, none⟩ = some (.slice (some ad) ts.length c2) ∧ w'.cell? (ad.add (i.toNat * 6)) = some (.int .i64 t.f0) ∧ w'.cell? ⟨(ad.add (i.toNat * 6)).block, (ad.add (i.toNat * 6)).off + 1, none⟩ = some (.int .i64 t.f1) ∧ w'.cell? ⟨(ad.add (i.toNat * 6)).block, (ad.add (i.toNat * 6)).off + 2, none⟩ = some (.int .i64 t.f2.f0) ∧ w'.cell? ⟨(ad.add (i.toNat * 6)).block, (ad.add (i.toNat * 6)).off + 3, none⟩ = some (.int .i64 t.f2.f1) ∧ w'.cell? ⟨(ad.add (i.toNat * 6)).block, (ad.add (i.toNat * 6)).off + 4, none⟩ = some (.int .i64 t.f3.f0) ∧ w'.cell? ⟨(ad.add (i.toNat * 6)).block, (ad.add (i.toNat * 6)).off + 5, none⟩ = some (.int .i64 t.f3.f1) ∧ w'.cell? (bd.add (i.toNat * 2)) = some (.int .i64 d.f0) ∧ w'.cell? ⟨(bd.add (i.toNat * 2)).block, (bd.add (i.toNat * 2)).off + 1, none⟩ = some (.int .i64 d.f1)) (ds := [12]) #[false, false, false, false, false, false, false, false, false, false, false, false, false] (by kernel_rfl) rfl rfl ⟨x2, y0, y1, y2, y3, y4, y5, z0, z1⟩ (fun hHeld => ?_)
      have HBd := Aside0.mk (below_drew1 (Below.refl W1.heap.size W1))
      have HSZ := Aside0.mk (show W1.heap.size ≤ W1.drew.heap.size from Nat.le_refl _)
      generalize W1.drew = wd at HBd HSZ hHeld ⊢
      refine pure_ (i := 0) (N := some 21) (v := ?_) (a' := ?_) #[true, false, false, false, false, false, false, false, false, false, false, false, false] rfl rfl (by kernel_rfl) (fun _ _ _ h => h) (Or.inl ⟨by rfl, ?_⟩) ?_ ?_
      rotate_left
      · intro w'
        go_simp
        with_reducible rfl
      rotate_left
      · simp only [Act.put, List.setIfInBounds_toArray, List.set_cons_zero, List.set_cons_succ, i64_w, i32_w]
        rfl
      refine pure_ (i := 2) (N := some 23) (v := ?_) (a' := ?_) #[true, false, true, false, false, false, false, false, false, false, false, false, false] rfl rfl (by kernel_rfl) (fun _ _ _ h => h) (Or.inl ⟨by rfl, ?_⟩) ?_ ?_
      rotate_left
      · intro w'
        go_simp
        with_reducible rfl
      rotate_left
      · simp only [Act.put, List.setIfInBounds_toArray, List.set_cons_zero, List.set_cons_succ, i64_w, i32_w]
        rfl
      refine pure_ (i := 5) (N := some 26) (v := ?_) (a' := ?_) #[true, false, true, false, false, true, false, false, false, false, false, false, false] rfl rfl (by kernel_rfl) (fun _ _ _ h => h) (Or.inl ⟨by rfl, ?_⟩) ?_ ?_
      rotate_left
      · intro w'
        go_simp
        with_reducible rfl
      rotate_left
      · simp only [Act.put, List.setIfInBounds_toArray, List.set_cons_zero, List.set_cons_succ, i64_w, i32_w]
        rfl
      refine pure_ (i := 6) (N := some 27) (v := ?_) (a' := ?_) #[true, false, true, false, false, true, true, false, false, false, false, false, false] rfl rfl (by kernel_rfl) (fun _ _ _ h => h) (Or.inl ⟨by rfl, ?_⟩) ?_ ?_
      rotate_left
      · intro w'
        go_simp
        with_reducible rfl
      rotate_left
      · simp only [Act.put, List.setIfInBounds_toArray, List.set_cons_zero, List.set_cons_succ, i64_w, i32_w]
        rfl
      refine pure_ (i := 7) (N := some 28) (v := ?_) (a' := ?_) #[true, false, true, false, false, true, true, true, false, false, false, false, false] rfl rfl (by kernel_rfl) (fun _ _ _ h => h) (Or.inl ⟨by rfl, ?_⟩) ?_ ?_
      rotate_left
      · intro w'
        go_simp
        with_reducible rfl
      rotate_left
      · simp only [Act.put, List.setIfInBounds_toArray, List.set_cons_zero, List.set_cons_succ, i64_w, i32_w]
        rfl
      refine take_ (i := 1) (N := some 22) (v := ?_) (a' := ?_) #[true, true, true, false, false, true, true, true, false, false, false, false, false] rfl rfl (by kernel_rfl) (fun _ _ _ h => h) (Or.inl ⟨by rfl, ?_⟩) hHeld ?_ ?_
      rotate_left
      · rintro w' ⟨s0, s1, s2, s3, s4, s5, s6, s7, s8⟩
        go_simp
        with_reducible rfl
      rotate_left
      · simp only [Act.put, List.setIfInBounds_toArray, List.set_cons_zero, List.set_cons_succ, i64_w, i32_w]
        rfl
      refine pure_ (i := 3) (N := some 24) (v := ?_) (a' := ?_) #[true, true, true, true, false, true, true, true, false, false, false, false, false] rfl rfl (by kernel_rfl) (fun _ _ _ h => h) (Or.inl ⟨by rfl, ?_⟩) ?_ ?_
      rotate_left
      · intro w'
        go_simp
        with_reducible rfl
      rotate_left
      · simp only [Act.put, List.setIfInBounds_toArray, List.set_cons_zero, List.set_cons_succ, i64_w, i32_w]
        rfl
      refine take_ (i := 4) (N := some 25) (v := ?_) (a' := ?_) #[true, true, true, true, true, true, true, true, false, false, false, false, false] rfl rfl (by kernel_rfl) (fun _ _ _ h => h) (Or.inl ⟨by rfl, ?_⟩) hHeld ?_ ?_
      rotate_left
      · rintro w' ⟨s0, s1, s2, s3, s4, s5, s6, s7, s8⟩
        go_simp
        with_reducible rfl
      rotate_left
      · simp only [Act.put, List.setIfInBounds_toArray, List.set_cons_zero, List.set_cons_succ, i64_w, i32_w]
        rfl
      refine take_ (i := 8) (N := some 29) (v := ?_) (a' := ?_) #[true, true, true, true, true, true, true, true, true, false, false, false, false] rfl rfl (by kernel_rfl) (fun _ _ _ h => h) (Or.inl ⟨by rfl, ?_⟩) hHeld ?_ ?_
      rotate_left
      · rintro w' ⟨s0, s1, s2, s3, s4, s5, s6, s7, s8⟩
        go_simp
        with_reducible rfl
      rotate_left
      · simp only [Act.put, List.setIfInBounds_toArray, List.set_cons_zero, List.set_cons_succ, i64_w, i32_w]
        rfl
      refine join_ (σ := Nat × Nat) 2 #[true, true, true, true, true, true, true, true, true, true, true, false, false] (fun s_ => [(6, .pointer (some ⟨s_.1, 0, none⟩)), (7, .pointer (some ⟨s_.2, 0, none⟩))]) (fun s_ w' => (w'.cell? ⟨w.heap.size, 2, none⟩ = some (.slice (some ad) ts.length c2) ∧ w'.cell? (ad.add (i.toNat * 6)) = some (.int .i64 t.f0) ∧ w'.cell? ⟨(ad.add (i.toNat * 6)).block, (ad.add (i.toNat * 6)).off + 1, none⟩ = some (.int .i64 t.f1) ∧ w'.cell? ⟨(ad.add (i.toNat * 6)).block, (ad.add (i.toNat * 6)).off + 2, none⟩ = some (.int .i64 t.f2.f0) ∧ w'.cell? ⟨(ad.add (i.toNat * 6)).block, (ad.add (i.toNat * 6)).off + 3, none⟩ = some (.int .i64 t.f2.f1) ∧ w'.cell? ⟨(ad.add (i.toNat * 6)).block, (ad.add (i.toNat * 6)).off + 4, none⟩ = some (.int .i64 t.f3.f0) ∧ w'.cell? ⟨(ad.add (i.toNat * 6)).block, (ad.add (i.toNat * 6)).off + 5, none⟩ = some (.int .i64 t.f3.f1) ∧ w'.cell? (bd.add (i.toNat * 2)) = some (.int .i64 d.f0) ∧ w'.cell? ⟨(bd.add (i.toNat * 2)).block, (bd.add (i.toNat * 2)).off + 1, none⟩ = some (.int .i64 d.f1)) ∧ w'.heap[s_.1]? = some (.cells #[.int .i64 0, .int .i64 0, .int .i64 0, .int .i64 0, .int .i64 0, .int .i64 0] 54 (0, 0)) ∧ w'.heap[s_.2]? = some (.cells #[.int .i64 0, .int .i64 0] 102 (0, 0)) ∧ s_.1 ≠ s_.2 ∧ W1.heap.size ≤ s_.1 ∧ W1.heap.size ≤ s_.2 ∧ Below W1.heap.size W1 w') ?_ ?_
      rotate_left
      · intro hCont
        refine two_ (i := 9) (j := 10) (Ni := some 6) (Nj := some 7) #[true, true, true, true, true, true, true, true, true, true, false, false, false] #[true, true, true, true, true, true, true, true, true, false, true, false, false] rfl rfl rfl rfl (by kernel_rfl) (by decide) (by decide) (fun K hK => ?_) (fun K hK => ?_)
        · skip
          refine value_ (w1 := ?_) (v := ?_) (by rfl) rfl ?_ ?_
          rotate_left 2
          · go_simp
            constructor
            · rfl
            · rfl
          refine hK.out _ _ ⟨pw_cell_below ((Below.refl _ _).alloc (Nat.le_refl _) _) (hHeld.1), pw_cell_below ((Below.refl _ _).alloc (Nat.le_refl _) _) (hHeld.2.1), pw_cell_below ((Below.refl _ _).alloc (Nat.le_refl _) _) (hHeld.2.2.1), pw_cell_below ((Below.refl _ _).alloc (Nat.le_refl _) _) (hHeld.2.2.2.1), pw_cell_below ((Below.refl _ _).alloc (Nat.le_refl _) _) (hHeld.2.2.2.2.1), pw_cell_below ((Below.refl _ _).alloc (Nat.le_refl _) _) (hHeld.2.2.2.2.2.1), pw_cell_below ((Below.refl _ _).alloc (Nat.le_refl _) _) (hHeld.2.2.2.2.2.2.1), pw_cell_below ((Below.refl _ _).alloc (Nat.le_refl _) _) (hHeld.2.2.2.2.2.2.2.1), pw_cell_below ((Below.refl _ _).alloc (Nat.le_refl _) _) (hHeld.2.2.2.2.2.2.2.2)⟩ (fun hHeld => ?_)
          clear hK K
          refine norm_ (a' := ?_) ?_ ?_
          rotate_left
          · show Act.put _ (some 6) _ = _
            simp only [Act.put, List.setIfInBounds_toArray, List.set_cons_zero, List.set_cons_succ, i64_w, i32_w]
            rfl
          refine one_ (i := 10) (N := some 7) #[true, true, true, true, true, true, true, true, true, true, true, false, false] rfl rfl (by kernel_rfl) (by decide) (fun K hK => ?_)
          refine value_ (w1 := ?_) (v := ?_) (by rfl) rfl ?_ ?_
          rotate_left 2
          · go_simp
            constructor
            · rfl
            · rfl
          refine hK.out _ _ ⟨pw_cell_below ((Below.refl _ _).alloc (Nat.le_refl _) _) (hHeld.1), pw_cell_below ((Below.refl _ _).alloc (Nat.le_refl _) _) (hHeld.2.1), pw_cell_below ((Below.refl _ _).alloc (Nat.le_refl _) _) (hHeld.2.2.1), pw_cell_below ((Below.refl _ _).alloc (Nat.le_refl _) _) (hHeld.2.2.2.1), pw_cell_below ((Below.refl _ _).alloc (Nat.le_refl _) _) (hHeld.2.2.2.2.1), pw_cell_below ((Below.refl _ _).alloc (Nat.le_refl _) _) (hHeld.2.2.2.2.2.1), pw_cell_below ((Below.refl _ _).alloc (Nat.le_refl _) _) (hHeld.2.2.2.2.2.2.1), pw_cell_below ((Below.refl _ _).alloc (Nat.le_refl _) _) (hHeld.2.2.2.2.2.2.2.1), pw_cell_below ((Below.refl _ _).alloc (Nat.le_refl _) _) (hHeld.2.2.2.2.2.2.2.2)⟩ (fun hHeld => ?_)
          clear hK K
          refine norm_ (a' := ?_) ?_ ?_
          rotate_left
          · show Act.put _ (some 7) _ = _
            simp only [Act.put, List.setIfInBounds_toArray, List.set_cons_zero, List.set_cons_succ, i64_w, i32_w]
            rfl
          exact norm_ (by simp only [putAll, Act.put, List.setIfInBounds_toArray, List.set_cons_zero, List.set_cons_succ]) (hCont (wd.heap.size, wd.heap.size + 1) _ ⟨hHeld, blk_alloc (blk_new wd _) _, two_new wd _ _, by simp, HSZ.out, Nat.le_succ_of_le HSZ.out, below_alloc (below_alloc HBd.out _) _⟩)
        · skip
          refine value_ (w1 := ?_) (v := ?_) (by rfl) rfl ?_ ?_
          rotate_left 2
          · go_simp
            constructor
            · rfl
            · rfl
          refine hK.out _ _ ⟨pw_cell_below ((Below.refl _ _).alloc (Nat.le_refl _) _) (hHeld.1), pw_cell_below ((Below.refl _ _).alloc (Nat.le_refl _) _) (hHeld.2.1), pw_cell_below ((Below.refl _ _).alloc (Nat.le_refl _) _) (hHeld.2.2.1), pw_cell_below ((Below.refl _ _).alloc (Nat.le_refl _) _) (hHeld.2.2.2.1), pw_cell_below ((Below.refl _ _).alloc (Nat.le_refl _) _) (hHeld.2.2.2.2.1), pw_cell_below ((Below.refl _ _).alloc (Nat.le_refl _) _) (hHeld.2.2.2.2.2.1), pw_cell_below ((Below.refl _ _).alloc (Nat.le_refl _) _) (hHeld.2.2.2.2.2.2.1), pw_cell_below ((Below.refl _ _).alloc (Nat.le_refl _) _) (hHeld.2.2.2.2.2.2.2.1), pw_cell_below ((Below.refl _ _).alloc (Nat.le_refl _) _) (hHeld.2.2.2.2.2.2.2.2)⟩ (fun hHeld => ?_)
          clear hK K
          refine norm_ (a' := ?_) ?_ ?_
          rotate_left
          · show Act.put _ (some 7) _ = _
            simp only [Act.put, List.setIfInBounds_toArray, List.set_cons_zero, List.set_cons_succ, i64_w, i32_w]
            rfl
          refine one_ (i := 9) (N := some 6) #[true, true, true, true, true, true, true, true, true, true, true, false, false] rfl rfl (by kernel_rfl) (by decide) (fun K hK => ?_)
          refine value_ (w1 := ?_) (v := ?_) (by rfl) rfl ?_ ?_
          rotate_left 2
          · go_simp
            constructor
            · rfl
            · rfl
          refine hK.out _ _ ⟨pw_cell_below ((Below.refl _ _).alloc (Nat.le_refl _) _) (hHeld.1), pw_cell_below ((Below.refl _ _).alloc (Nat.le_refl _) _) (hHeld.2.1), pw_cell_below ((Below.refl _ _).alloc (Nat.le_refl _) _) (hHeld.2.2.1), pw_cell_below ((Below.refl _ _).alloc (Nat.le_refl _) _) (hHeld.2.2.2.1), pw_cell_below ((Below.refl _ _).alloc (Nat.le_refl _) _) (hHeld.2.2.2.2.1), pw_cell_below ((Below.refl _ _).alloc (Nat.le_refl _) _) (hHeld.2.2.2.2.2.1), pw_cell_below ((Below.refl _ _).alloc (Nat.le_refl _) _) (hHeld.2.2.2.2.2.2.1), pw_cell_below ((Below.refl _ _).alloc (Nat.le_refl _) _) (hHeld.2.2.2.2.2.2.2.1), pw_cell_below ((Below.refl _ _).alloc (Nat.le_refl _) _) (hHeld.2.2.2.2.2.2.2.2)⟩ (fun hHeld => ?_)
          clear hK K
          refine norm_ (a' := ?_) ?_ ?_
          rotate_left
          · show Act.put _ (some 6) _ = _
            simp only [Act.put, List.setIfInBounds_toArray, List.set_cons_zero, List.set_cons_succ, i64_w, i32_w]
            rfl
          exact norm_ (by simp only [putAll, Act.put, List.setIfInBounds_toArray, List.set_cons_zero, List.set_cons_succ]) (hCont (wd.heap.size + 1, wd.heap.size) _ ⟨hHeld, two_new wd _ _, blk_alloc (blk_new wd _) _, by simp, Nat.le_succ_of_le HSZ.out, HSZ.out, below_alloc (below_alloc HBd.out _) _⟩)
      rintro ⟨g6, g7⟩ w3 ⟨hS_, h6, h7, h67, hg6, hg7, hb⟩
      have hHeld := hS_
      have H6 := Aside0.mk h6
      have H7 := Aside0.mk h7
      have H67 := Aside0.mk h67
      have HG6 := Aside0.mk hg6
      have HG7 := Aside0.mk hg7
      have HB3 := Aside0.mk hb
      clear h6 h7 h67 hg6 hg7 hb
      refine norm_ (a' := ?_) ?_ ?_
      rotate_left
      · simp only [putAll, Act.put, List.setIfInBounds_toArray, List.set_cons_zero, List.set_cons_succ]
        rfl
      refine one_ (i := 11) (N := none) #[true, true, true, true, true, true, true, true, true, true, true, true, false] rfl rfl (by kernel_rfl) (by decide) (fun K hK => ?_)
      obtain ⟨k0, k1, k2, k3, k4, k5⟩ := six_cells H6.out
      have kf0 := blk_frozen H6.out 0
      have kf1 := blk_frozen H6.out 1
      have kf2 := blk_frozen H6.out 2
      have kf3 := blk_frozen H6.out 3
      have kf4 := blk_frozen H6.out 4
      have kf5 := blk_frozen H6.out 5
      refine skip_ (w1 := ?_) (by rfl) rfl ?_ ?_
      rotate_left
      · go_simp
        rfl
      refine hK.out _ _ ⟨pw_cell_below (below_set (below_set (below_set (below_set (below_set (below_set HB3.out HG6.out) HG6.out) HG6.out) HG6.out) HG6.out) HG6.out) x2, pw_cell_below (below_set (below_set (below_set (below_set (below_set (below_set HB3.out HG6.out) HG6.out) HG6.out) HG6.out) HG6.out) HG6.out) y0, pw_cell_below (below_set (below_set (below_set (below_set (below_set (below_set HB3.out HG6.out) HG6.out) HG6.out) HG6.out) HG6.out) HG6.out) y1, pw_cell_below (below_set (below_set (below_set (below_set (below_set (below_set HB3.out HG6.out) HG6.out) HG6.out) HG6.out) HG6.out) HG6.out) y2, pw_cell_below (below_set (below_set (below_set (below_set (below_set (below_set HB3.out HG6.out) HG6.out) HG6.out) HG6.out) HG6.out) HG6.out) y3, pw_cell_below (below_set (below_set (below_set (below_set (below_set (below_set HB3.out HG6.out) HG6.out) HG6.out) HG6.out) HG6.out) HG6.out) y4, pw_cell_below (below_set (below_set (below_set (below_set (below_set (below_set HB3.out HG6.out) HG6.out) HG6.out) HG6.out) HG6.out) HG6.out) y5, pw_cell_below (below_set (below_set (below_set (below_set (below_set (below_set HB3.out HG6.out) HG6.out) HG6.out) HG6.out) HG6.out) HG6.out) z0, pw_cell_below (below_set (below_set (below_set (below_set (below_set (below_set HB3.out HG6.out) HG6.out) HG6.out) HG6.out) HG6.out) HG6.out) z1⟩ (fun hHeld => ?_)
      clear hK K
      refine last_ (i := 12) (N := none) #[true, true, true, true, true, true, true, true, true, true, true, true, true] rfl rfl (by kernel_rfl) (by decide) (fun K hK => ?_)
      have K6 := Aside0.mk (show ((((((w3.setCell ⟨g6, 0, none⟩ (.int .i64 t.f0)).setCell ⟨g6, 1, none⟩ (.int .i64 t.f1)).setCell ⟨g6, 2, none⟩ (.int .i64 t.f2.f0)).setCell ⟨g6, 3, none⟩ (.int .i64 t.f2.f1)).setCell ⟨g6, 4, none⟩ (.int .i64 t.f3.f0)).setCell ⟨g6, 5, none⟩ (.int .i64 t.f3.f1)).heap[g6]? = some (.cells #[.int .i64 t.f0, .int .i64 t.f1, .int .i64 t.f2.f0, .int .i64 t.f2.f1, .int .i64 t.f3.f0, .int .i64 t.f3.f1] 54 (0, 0)) from (blk_put (blk_put (blk_put (blk_put (blk_put (blk_put H6.out 0 _ rfl) 1 _ rfl) 2 _ rfl) 3 _ rfl) 4 _ rfl) 5 _ rfl))
      have K7 := Aside0.mk (show ((((((w3.setCell ⟨g6, 0, none⟩ (.int .i64 t.f0)).setCell ⟨g6, 1, none⟩ (.int .i64 t.f1)).setCell ⟨g6, 2, none⟩ (.int .i64 t.f2.f0)).setCell ⟨g6, 3, none⟩ (.int .i64 t.f2.f1)).setCell ⟨g6, 4, none⟩ (.int .i64 t.f3.f0)).setCell ⟨g6, 5, none⟩ (.int .i64 t.f3.f1)).heap[g7]? = some (.cells #[.int .i64 0, .int .i64 0] 102 (0, 0)) from (blk_far (blk_far (blk_far (blk_far (blk_far (blk_far H7.out H67.out.symm _) H67.out.symm _) H67.out.symm _) H67.out.symm _) H67.out.symm _) H67.out.symm _))
      have KB := Aside0.mk (show Below W1.heap.size W1 ((((((w3.setCell ⟨g6, 0, none⟩ (.int .i64 t.f0)).setCell ⟨g6, 1, none⟩ (.int .i64 t.f1)).setCell ⟨g6, 2, none⟩ (.int .i64 t.f2.f0)).setCell ⟨g6, 3, none⟩ (.int .i64 t.f2.f1)).setCell ⟨g6, 4, none⟩ (.int .i64 t.f3.f0)).setCell ⟨g6, 5, none⟩ (.int .i64 t.f3.f1)) from (below_set (below_set (below_set (below_set (below_set (below_set HB3.out HG6.out) HG6.out) HG6.out) HG6.out) HG6.out) HG6.out))
      clear hHeld k0 k1 k2 k3 k4 k5 kf0 kf1 kf2 kf3 kf4 kf5 H6 H7 HB3
      generalize ((((((w3.setCell ⟨g6, 0, none⟩ (.int .i64 t.f0)).setCell ⟨g6, 1, none⟩ (.int .i64 t.f1)).setCell ⟨g6, 2, none⟩ (.int .i64 t.f2.f0)).setCell ⟨g6, 3, none⟩ (.int .i64 t.f2.f1)).setCell ⟨g6, 4, none⟩ (.int .i64 t.f3.f0)).setCell ⟨g6, 5, none⟩ (.int .i64 t.f3.f1)) = w4 at K6 K7 KB ⊢
      have k0 := (blk_cell K7.out 0).trans rfl
      have k1 := (blk_cell K7.out 1).trans rfl
      have kf0 := blk_frozen K7.out 0
      have kf1 := blk_frozen K7.out 1
      refine skip_ (w1 := ?_) (by rfl) rfl ?_ ?_
      rotate_left
      · go_simp
        rfl
      refine hK.out _ _ ?_
      clear hK K
      refine done_ (by kernel_rfl) ?_
      have L6 := Aside0.mk (show ((w4.setCell ⟨g7, 0, none⟩ (.int .i64 d.f0)).setCell ⟨g7, 1, none⟩ (.int .i64 d.f1)).heap[g6]? = some (.cells #[.int .i64 t.f0, .int .i64 t.f1, .int .i64 t.f2.f0, .int .i64 t.f2.f1, .int .i64 t.f3.f0, .int .i64 t.f3.f1] 54 (0, 0)) from blk_far (blk_far K6.out H67.out _) H67.out _)
      have L7 := Aside0.mk (show ((w4.setCell ⟨g7, 0, none⟩ (.int .i64 d.f0)).setCell ⟨g7, 1, none⟩ (.int .i64 d.f1)).heap[g7]? = some (.cells #[.int .i64 d.f0, .int .i64 d.f1] 102 (0, 0)) from blk_put (blk_put K7.out 0 _ rfl) 1 _ rfl)
      have LB := Aside0.mk (show Below W1.heap.size W1 ((w4.setCell ⟨g7, 0, none⟩ (.int .i64 d.f0)).setCell ⟨g7, 1, none⟩ (.int .i64 d.f1)) from below_set (below_set KB.out HG7.out) HG7.out)
      generalize ((w4.setCell ⟨g7, 0, none⟩ (.int .i64 d.f0)).setCell ⟨g7, 1, none⟩ (.int .i64 d.f1)) = w5 at L6 L7 LB ⊢
      clear K6 K7 KB x0 x1 x2 x3 y0 y1 y2 y3 y4 y5 z0 z1 k0 k1 kf0 kf1 hS_ HBd HSZ
      have BK5 := Aside0.mk ((LB.out.block _ (blk_lt BK.out)).trans BK.out)
      have HB5 := Aside0.mk (below_then HB.out HB.out.size LB.out)
      clear LB BK HB
      obtain ⟨a0, a1, a2, a3, a4, a5⟩ := six_cells L6.out
      have b0 := (blk_cell L7.out 0).trans (show _ = some (Value.int .i64 d.f0) from rfl)
      have b1 := (blk_cell L7.out 1).trans (show _ = some (Value.int .i64 d.f1) from rfl)
      have he : ((withinB d.f0 t.f2.f0 t.f2.f1 && (withinB d.f1 t.f3.f0 t.f3.f1 && allFrom (fun k => !overB (toT t) (tAt (ts.map toT) k) (toD d) (dAt (ds.map toD) k)) 0 i.toNat)) && allFrom (dateOk (ts.map toT) (ds.map toD)) (i.toNat + 1) ts.length) = R := HE1.out
      cases c1 : withinB d.f0 t.f2.f0 t.f2.f1
      · rw [c1, Bool.false_and, Bool.false_and] at he
        subst he
        clear HE1
        go_wp2_with (go_at_call 29; (with_reducible refine (In_calls _ _ _ _).mono ?_); rintro e w' ⟨rfl, rfl⟩; rw [c1])
        go_ret
        exact ⟨rfl, HB5.out⟩
      cases cc2 : withinB d.f1 t.f3.f0 t.f3.f1
      · rw [c1, cc2, Bool.false_and, Bool.and_false, Bool.false_and] at he
        subst he
        clear HE1
        go_wp2_with (go_at_call 29; (with_reducible refine (In_calls _ _ _ _).mono ?_); rintro e w' ⟨rfl, rfl⟩; (first | rw [c1] | rw [cc2]))
        go_ret
        exact ⟨rfl, HB5.out⟩
      rw [c1, cc2, Bool.true_and, Bool.true_and] at he
      have HE2 := Aside0.mk (show (allFrom (fun k => !overB (toT t) (tAt (ts.map toT) k) (toD d) (dAt (ds.map toD) k)) (0 : Int).toNat i.toNat && allFrom (dateOk (ts.map toT) (ds.map toD)) (i + 1).toNat ts.length) = R by rw [show (i + 1).toNat = i.toNat + 1 by have := HI.out; omega]; exact he)
      clear he HE1
      go_wp2_with (go_at_call 29; (with_reducible refine (In_calls _ _ _ _).mono ?_); rintro e w' ⟨rfl, rfl⟩; (first | rw [c1] | rw [cc2]))
      clear a0 a1 a2 a3 a4 a5 b0 b1 c1 cc2
      go_loopg [8] i.toNat (fun kq v8 w' => ∃ j : Int, v8 = .int .i64 j ∧ Aside0 (0 ≤ j ∧ kq + j.toNat = i.toNat) ∧ Aside0 ((allFrom (fun k => !overB (toT t) (tAt (ts.map toT) k) (toD d) (dAt (ds.map toD) k)) j.toNat i.toNat && allFrom (dateOk (ts.map toT) (ds.map toD)) (i + 1).toNat ts.length) = R) ∧ Aside0 (w'.heap[w.heap.size]? = some (.cells #[.int .i64 p, .int .i64 o, .slice (some ad) ts.length c2, .slice A3 ns.length c3] 25 (0, 0))) ∧ Aside0 (w'.heap[g6]? = some (.cells #[.int .i64 t.f0, .int .i64 t.f1, .int .i64 t.f2.f0, .int .i64 t.f2.f1, .int .i64 t.f3.f0, .int .i64 t.f3.f1] 54 (0, 0))) ∧ Aside0 (w'.heap[g7]? = some (.cells #[.int .i64 d.f0, .int .i64 d.f1] 102 (0, 0))) ∧ Aside0 (Below w.heap.size w w'))
      case atStart => exact ⟨0, rfl, ⟨by simp⟩, HE2, BK5, L6, L7, HB5⟩
      case round =>
        clear HE2 BK5 L6 L7 HB5
        obtain ⟨j, rfl, HJ, HE, BK, L6, L7, HB⟩ := hrel
        rename World => W2
        obtain ⟨x0, x1, x2, x3⟩ := roll_cells BK.out
        by_cases hjt : j < i
        case neg =>
          have t1 : decide (j < i) = false := decide_eq_false hjt
          have he := HE.out
          rw [allFrom_end _ (by have := HJ.out; have := HI.out; omega), Bool.true_and] at he
          have HE3 := Aside0.mk he
          clear he hjt HE
          go_wp2
          go_roundg g1
          case measure => have := HI.out; have := HLT.out; omega
          case rel => exact ⟨i + 1, by first | rfl | rw [HW.out], ⟨by have := HI.out; have := HLT.out; omega⟩, HE3, BK, HB⟩
        case pos =>
          have t1 : decide (j < i) = true := decide_eq_true hjt
          have j0 : 0 ≤ j := HJ.out.1
          have HWJ := Aside0.mk (show wrap64 (j + 1) = j + 1 by unfold wrap64; have := HTS.out; have := HLEN.out; have := HLT.out; omega)
          have HJT := Aside0.mk hjt
          have hj2 : j < (ts.length : Int) := by have := HLEN.out; have := HLT.out; omega
          have hj3 : j < (ds.length : Int) := by have := HLT.out; omega
          obtain ⟨ad', hA', q0, q1, q2, q3, q4, q5⟩ := at_T54 (Kd.C_below HR2.out HB.out) j j0 hj2
          obtain ⟨bd', hB', r0, r1⟩ := at_T102 (Kd.C_below HDS.out HB.out) j j0 hj3
          obtain rfl : ad = ad' := by injection hA'
          obtain rfl : bd = bd' := by injection hB'
          obtain ⟨u, hu⟩ : ∃ u, rd_T54 ts j = u := ⟨_, rfl⟩
          obtain ⟨e, hee⟩ : ∃ e, rd_T102 ds j = e := ⟨_, rfl⟩
          rw [hu] at q0 q1 q2 q3 q4 q5
          rw [hee] at r0 r1
          have he := HE.out
          rw [allFrom_step _ (by have := HI.out; omega), tAt_rd ts j (by omega), dAt_rd ds j (by omega), hu, hee] at he
          have hv : overB (toT t) (toT u) (toD d) (toD e) = ((u.f1 == t.f1) && (decide (d.f0 < e.f1) && decide (e.f0 < d.f1))) := by
            unfold overB
            rw [show decide ((toT u).f1 = (toT t).f1) = (u.f1 == t.f1) from rfl]
            rfl
          rw [hv] at he
          have HE3 := Aside0.mk he
          obtain ⟨a0, a1, a2, a3, a4, a5⟩ := six_cells L6.out
          have b0 := (blk_cell L7.out 0).trans (show _ = some (Value.int .i64 d.f0) from rfl)
          have b1 := (blk_cell L7.out 1).trans (show _ = some (Value.int .i64 d.f1) from rfl)
          clear hA' hB' hu hee he hv HE
          replace j0 := eq_true j0
          replace hj2 := eq_true hj2
          replace hj3 := eq_true hj3
          have he := HE3.out
          cases o1 : (u.f1 == t.f1)
          · rw [o1] at he
            simp only [Bool.false_and, Bool.and_false, Bool.and_self, Bool.true_and, Bool.not_false] at he
            have HE4 := Aside0.mk (show (allFrom (fun k => !overB (toT t) (tAt (ts.map toT) k) (toD d) (dAt (ds.map toD) k)) (j + 1).toNat i.toNat && allFrom (dateOk (ts.map toT) (ds.map toD)) (i + 1).toNat ts.length) = R by rw [show (j + 1).toNat = j.toNat + 1 by have := HJ.out; omega]; exact he)
            clear he HE3
            go_wp2
            go_quiet (fail)
            go_wp2
            go_roundg (gk - 1)
            case measure => have := HJ.out; have := HJT.out; omega
            case rel => exact ⟨j + 1, by first | rfl | rw [HWJ.out], ⟨by have := HJ.out; have := HJT.out; omega⟩, HE4, BK, L6, L7, ⟨pw_below_drewN HB.out _⟩⟩
          cases o2 : decide (d.f0 < e.f1)
          · rw [o1, o2] at he
            simp only [Bool.false_and, Bool.and_false, Bool.and_self, Bool.true_and, Bool.not_false] at he
            have HE4 := Aside0.mk (show (allFrom (fun k => !overB (toT t) (tAt (ts.map toT) k) (toD d) (dAt (ds.map toD) k)) (j + 1).toNat i.toNat && allFrom (dateOk (ts.map toT) (ds.map toD)) (i + 1).toNat ts.length) = R by rw [show (j + 1).toNat = j.toNat + 1 by have := HJ.out; omega]; exact he)
            clear he HE3
            go_wp2
            go_quiet (fail)
            go_wp2
            go_roundg (gk - 1)
            case measure => have := HJ.out; have := HJT.out; omega
            case rel => exact ⟨j + 1, by first | rfl | rw [HWJ.out], ⟨by have := HJ.out; have := HJT.out; omega⟩, HE4, BK, L6, L7, ⟨pw_below_drewN HB.out _⟩⟩
          cases o3 : decide (e.f0 < d.f1)
          · rw [o1, o2, o3] at he
            simp only [Bool.false_and, Bool.and_false, Bool.and_self, Bool.true_and, Bool.not_false] at he
            have HE4 := Aside0.mk (show (allFrom (fun k => !overB (toT t) (tAt (ts.map toT) k) (toD d) (dAt (ds.map toD) k)) (j + 1).toNat i.toNat && allFrom (dateOk (ts.map toT) (ds.map toD)) (i + 1).toNat ts.length) = R by rw [show (j + 1).toNat = j.toNat + 1 by have := HJ.out; omega]; exact he)
            clear he HE3
            go_wp2
            go_quiet (fail)
            go_wp2
            go_roundg (gk - 1)
            case measure => have := HJ.out; have := HJT.out; omega
            case rel => exact ⟨j + 1, by first | rfl | rw [HWJ.out], ⟨by have := HJ.out; have := HJT.out; omega⟩, HE4, BK, L6, L7, ⟨pw_below_drewN HB.out _⟩⟩
          rw [o1, o2, o3] at he
          simp only [Bool.and_self, Bool.not_true, Bool.false_and] at he
          subst he
          clear HE3
          go_wp2
          go_quiet (fail)
          go_wp2
          go_ret
          exact ⟨rfl, pw_below_drewN HB.out _⟩
end Go.Proofs.Ythpheknchikodaa.P
