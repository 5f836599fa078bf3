/- Contracts of functions that the laws reach, part Xk2. Conditions: each theorem names its own. -/
import Derived.SliceStrings
import Derived.Test.YthpheknchikodaaXk1
import Derived.Test.YthpheknchikodaaXb13
import Derived.Test.YthpheknchikodaaXb1
/- The walk of the reference's Quote, which calls itself: the first places that begin so. Conditions: the lists are readable, of bounded length; no more places than words. -/
namespace Go.Proofs.Ythpheknchikodaa.P
open Go.RowKit Go.Proofs.YthpheknchikodaaW.PrintWords Go.Proofs.YthpheknchikodaaW.PrintLast
set_option linter.unusedVariables false
set_option linter.unusedSimpArgs false

/-- How many texts hold the first h words. -/
def prefN : List ByteArray → Nat → Nat
  | _, 0 => 0
  | [], _ + 1 => 0
  | s :: l, h + 1 => 1 + (if isGap s = true then prefN l (h + 1) else prefN l h)
/-- The first that answers. -/
def firstAt (f : Int → Option (List Int)) : Nat → Int → Option (List Int)
  | 0, _ => none
  | c + 1, at_ => match f at_ with | some r => some r | none => firstAt f c (at_ + 1)
def rQ (paper quotation kept : List ByteArray) : Nat → List Int → Option (List Int)
  | 0, begins => if 0 < begins.length ∧ fitsB paper (quotation.take (prefN quotation begins.length)) kept begins = false then none else some begins
  | d + 1, begins => if 0 < begins.length ∧ fitsB paper (quotation.take (prefN quotation begins.length)) kept begins = false then none else firstAt (fun a => rQ paper quotation kept d (begins ++ [a])) paper.length 0
def RQP (r : Option (List Int)) (w : World) (e : Ending) (w' : World) : Prop :=
  ∃ (A : Option Addr) (c : Nat), e = .returned (.tuple #[.slice A (r.getD []).length c, .bool r.isSome]) ∧ (r.getD []).length ≤ c ∧ Kd.C (Kd.int .i64) w' A (r.getD []).length (r.getD []) ∧ Below w.heap.size w w'
theorem C_none (w : World) : Kd.C (Kd.int .i64) w none ([] : List Int).length [] := Kd.C_nil _ _
theorem R_lit0 (B : Nat) (W : World) (hB : B ≤ W.heap.size) : Kd.R (Kd.int .i64) 3 (W.alloc (.cells #[] 3)) B (fun _ => True) (.slice (some ⟨W.heap.size, 0, none⟩) 0 0) [] :=
  Kd.R_of_own ⟨rfl, .inr ⟨W.heap.size, 0, #[], rfl, hB, blk_new W _, Nat.le_refl _, by decide, rfl, rfl⟩⟩ (fun _ _ => trivial)
theorem Kd_take (A : Option Addr) (c : Nat) (xs : List ByteArray) (j : Int) (w : World) (h0 : 0 ≤ j) (hm : j ≤ xs.length) (hc : xs.length ≤ c) (h : Kd.C Kd.string w A xs.length xs) :
    (∀ W : World, (Instr.slice 73 (.slice A xs.length c) none (some (.int .i64 j)) none).run Try.prog W = .ok (.slice A (xs.take j.toNat).length c) W) ∧ Kd.C Kd.string w A (xs.take j.toNat).length (xs.take j.toNat) := by
  obtain ⟨i0, hi, _, hz1, _⟩ := info_parts info9
  obtain ⟨h2, h3, _⟩ := print_take_of (P := Try.prog) Value.string ByteArray.empty 73 9 .i64 Try.underlying73 hi hz1 A c xs j h0 hm hc
  exact ⟨h2, Kd.C_of_reads (h1 := fun _ => rfl) (h3 w (Kd.reads_of_C h))⟩
theorem prefN_le : ∀ (l : List ByteArray) (h : Nat), prefN l h ≤ l.length
  | _, 0 => by simp [prefN]
  | [], _ + 1 => by simp [prefN]
  | s :: l, h + 1 => by
    have h1 := prefN_le l (h + 1)
    have h2 := prefN_le l h
    rw [prefN, List.length_cons]
    split <;> omega
section
variable (A0 : Option Addr) (c0 : Nat) (paper : List ByteArray) (A1 : Option Addr) (c1 : Nat) (l : List ByteArray) (A2 : Option Addr) (c2 : Nat) (kept : List ByteArray)
theorem rQ_bad {d : Nat} {begins : List Int} (h : 0 < begins.length ∧ fitsB paper (l.take (prefN l begins.length)) kept begins = false) : rQ paper l kept d begins = none := by
  cases d <;> rw [rQ, if_pos h]
theorem rQ_zero {begins : List Int} (h : ¬ (0 < begins.length ∧ fitsB paper (l.take (prefN l begins.length)) kept begins = false)) : rQ paper l kept 0 begins = some begins := by rw [rQ, if_neg h]
theorem rQ_succ {d : Nat} {begins : List Int} (h : ¬ (0 < begins.length ∧ fitsB paper (l.take (prefN l begins.length)) kept begins = false)) : rQ paper l kept (d + 1) begins = firstAt (fun a => rQ paper l kept d (begins ++ [a])) paper.length 0 := by rw [rQ, if_neg h]
theorem firstAt_step (f : Int → Option (List Int)) (n : Nat) (i : Int) (h0 : 0 ≤ i) (h : i < (n : Int)) : firstAt f (n - i.toNat) i = match f i with | some r => some r | none => firstAt f (n - (i + 1).toNat) (i + 1) := by
  rw [show n - i.toNat = (n - (i + 1).toNat) + 1 by omega, firstAt]
theorem firstAt_end (f : Int → Option (List Int)) (n : Nat) (i : Int) (h : ¬ i < (n : Int)) : firstAt f (n - i.toNat) i = none := by
  rw [show n - i.toNat = 0 by omega, firstAt]
/-- What the reference's Quote answers for all but so many places. -/
def QC (d : Nat) : Prop := ∀ (begins : List Int) (A3 : Option Addr) (c3 : Nat) (w : World), (begins.length : Int) + d = wordsN l → Kd.C Kd.string w A0 paper.length paper → Kd.C Kd.string w A1 l.length l → Kd.C Kd.string w A2 kept.length kept → Kd.C (Kd.int .i64) w A3 begins.length begins →
      Calls Try.prog 40 #[.slice A0 paper.length c0, .slice A1 l.length c1, .slice A2 kept.length c2, .slice A3 begins.length c3] w (RQP (rQ paper l kept d begins) w)
set_option maxHeartbeats 8000000 in
set_option maxRecDepth 100000 in
theorem rQuote_step (hm : paper.length ≤ 1000000 ∧ l.length ≤ 1000000 ∧ kept.length ≤ 1000000) (hc1 : l.length ≤ c1) (hqs : ∀ s ∈ l, s.size ≤ 1000000) (d : Nat) (ih : ∀ d', d = d' + 1 → QC A0 c0 paper A1 c1 l A2 c2 kept d') : QC A0 c0 paper A1 c1 l A2 c2 kept d := by
  intro begins A3 c3 w hd h0 h1 h2 h3
  have HM := Aside0.mk hm
  have HC1 := Aside0.mk hc1
  have HQS := Aside0.mk hqs
  have IH := Aside0.mk ih
  have HD := Aside0.mk hd
  have HR0 := Aside0.mk h0
  have HR1 := Aside0.mk h1
  have HR2 := Aside0.mk h2
  have HR3 := Aside0.mk h3
  have HBL := Aside0.mk (show begins.length ≤ 1000000 ∧ (begins.length : Int) ≤ wordsN l by have := (wordsN_bd l).2; omega)
  clear hm hc1 hqs ih hd h0 h1 h2 h3
  obtain ⟨R, hR⟩ : ∃ R, rQ paper l kept d begins = R := ⟨_, rfl⟩
  rw [hR]
  have HRR := Aside0.mk hR
  clear hR
  obtain ⟨N, hN⟩ : ∃ N, prefN l begins.length = N := ⟨_, rfl⟩
  have HN := Aside0.mk (show (0 : Int).toNat + prefN (l.drop (0 : Int).toNat) ((begins.length : Int) - 0).toNat = N ∧ (begins.length : Int) - 0 ≤ wordsN (l.drop (0 : Int).toNat) by
    rw [← hN]
    refine ⟨?_, by have := HBL.out.2; simp; omega⟩
    simp)
  have HNN := Aside0.mk hN
  clear hN
  go_enter Try.func40, Try.ntmps40
  go_wp2
  go_loopg [10, 11] l.length (fun kq v10 v11 w' => ∃ i h : Int, v10 = .int .i64 i ∧ v11 = .int .i64 h ∧ Aside0 (0 ≤ i ∧ kq + i.toNat = l.length ∧ 0 ≤ h ∧ h ≤ (begins.length : Int)) ∧ Aside0 (i.toNat + prefN (l.drop i.toNat) ((begins.length : Int) - h).toNat = N ∧ (begins.length : Int) - h ≤ wordsN (l.drop i.toNat)) ∧ w = w')
  case atStart => exact ⟨0, 0, rfl, rfl, ⟨by simp⟩, HN, rfl⟩
  case round =>
    clear HN
    obtain ⟨i, h, rfl, rfl, HK, HI, rfl⟩ := hrel
    by_cases hlt : h < (begins.length : Int)
    case pos =>
      have t0 : decide (h < (begins.length : Int)) = true := decide_eq_true hlt
      have hil : i < (l.length : Int) := by
        by_cases hil : i < (l.length : Int)
        · exact hil
        · exfalso
          have he := HI.out.2
          rw [List.drop_eq_nil_of_le (by omega), wordsN] at he
          omega
      have p1 : 0 ≤ i := HK.out.1
      obtain ⟨ad, hA, g0⟩ := Kd.at_string HR1.out i p1 hil
      have he := HI.out
      rw [drop_rd l i p1 hil, show ((begins.length : Int) - h).toNat = ((begins.length : Int) - (h + 1)).toNat + 1 by omega, prefN, wordsN] at he
      cases hA
      have HLT := Aside0.mk hlt
      have HIL := Aside0.mk hil
      have HW := Aside0.mk (show wrap64 (i + 1) = i + 1 by unfold wrap64; have := HK.out; have := HM.out; omega)
      have HWH := Aside0.mk (show wrap64 (h + 1) = h + 1 by unfold wrap64; have := HK.out; have := HBL.out; omega)
      replace p1 := eq_true p1
      replace hil := eq_true hil
      clear HI hlt
      cases hg : isGap (rdOf ByteArray.empty l i)
      case true =>
        rw [if_pos hg, if_pos hg, Int.zero_add] at he
        have HE := Aside0.mk (show (i + 1).toNat + prefN (l.drop (i + 1).toNat) ((begins.length : Int) - h).toNat = N ∧ (begins.length : Int) - h ≤ wordsN (l.drop (i + 1).toNat) from ⟨by
          have := HLT.out
          rw [show ((begins.length : Int) - h).toNat = ((begins.length : Int) - (h + 1)).toNat + 1 by omega, show (i + 1).toNat = i.toNat + 1 by have := HK.out; omega]
          have := he.1
          rw [show (i + 1).toNat = i.toNat + 1 by have := HK.out; omega] at this
          omega, he.2⟩)
        clear he
        go_wp2_with (go_at_call 41; (with_reducible refine (Gap_calls _ _).mono ?_); rintro e w2 ⟨rfl, rfl⟩; rw [hg])
        go_roundg (gk - 1)
        case measure => have := HK.out; have := HIL.out; omega
        case rel => exact ⟨i + 1, h, by first | rfl | rw [HW.out], rfl, ⟨by have := HK.out; have := HIL.out; omega⟩, HE, rfl⟩
      case false =>
        rw [if_neg (by rw [hg]; exact Bool.false_ne_true), if_neg (by rw [hg]; exact Bool.false_ne_true)] at he
        have HE := Aside0.mk (show (i + 1).toNat + prefN (l.drop (i + 1).toNat) ((begins.length : Int) - (h + 1)).toNat = N ∧ (begins.length : Int) - (h + 1) ≤ wordsN (l.drop (i + 1).toNat) from ⟨by
          have h9 := he.1
          have h8 : (i + 1).toNat = i.toNat + 1 := by have := HK.out; omega
          rw [h8] at h9 ⊢
          omega, by have := he.2; omega⟩)
        clear he
        go_wp2_with (go_at_call 41; (with_reducible refine (Gap_calls _ _).mono ?_); rintro e w2 ⟨rfl, rfl⟩; rw [hg])
        go_roundg (gk - 1)
        case measure => have := HK.out; have := HIL.out; omega
        case rel => exact ⟨i + 1, h + 1, by first | rfl | rw [HW.out], by first | rfl | rw [HWH.out], ⟨by have := HK.out; have := HIL.out; have := HLT.out; omega⟩, HE, rfl⟩
    case neg =>
      have t0 : decide (h < (begins.length : Int)) = false := decide_eq_false hlt
      have hin : i.toNat = N := by
        have he := HI.out.1
        rw [show ((begins.length : Int) - h).toNat = 0 by have := HK.out; omega] at he
        simpa [prefN] using he
      have HIN := Aside0.mk hin
      have i0 : 0 ≤ i := HK.out.1
      have hil : i ≤ (l.length : Int) := by have := HK.out; omega
      obtain ⟨hsl, hsc⟩ := Kd_take A1 c1 l i w i0 hil HC1.out HR1.out
      have hF := Fits_calls A0 c0 paper A1 c1 (l.take i.toNat) A2 c2 kept A3 c3 begins w HR0.out hsc HR2.out HR3.out ⟨HM.out.1, by rw [List.length_take]; have := HM.out.2.1; omega, HM.out.2.2, HBL.out.1⟩ (fun s hs => HQS.out s (List.mem_of_mem_take hs))
      rw [show (l.take i.toNat).length = i.toNat by rw [List.length_take]; omega, hin] at hF
      rw [hin] at hsl
      have hin' : N = i.toNat := hin.symm
      rw [hin'] at hF hsl
      have HFC := Aside0.mk hF
      clear hlt hin hin' HI hsc hF
      by_cases hb0 : 0 < begins.length
      case pos =>
        have e1 : decide (0 < (begins.length : Int)) = true := decide_eq_true (by omega)
        cases hf : fitsB paper (l.take N) kept begins
        case false =>
          have HRS := Aside0.mk (show R = none from HRR.out.symm.trans (rQ_bad paper l kept ⟨hb0, by rw [HNN.out]; exact hf⟩))
          go_wp2_with (go_at_call 39; refine HFC.out.mono ?_; rintro e W1 ⟨rfl, hb⟩; rw [show i.toNat = N from HIN.out, hf]; have HB := Aside0.mk hb; clear hb)
          refine bodyPost_ret (results_tmp2 rfl _ _ _) rfl ?_
          rw [HRS.out]
          exact ⟨none, 0, rfl, Nat.le_refl _, C_none _, HB.out⟩
        case true =>
          have HNB := Aside0.mk (show ¬ (0 < begins.length ∧ fitsB paper (l.take (prefN l begins.length)) kept begins = false) from fun h => by rw [HNN.out, hf] at h; cases h.2)
          go_wp2_with (go_at_call 39; refine HFC.out.mono ?_; rintro e W1 ⟨rfl, hb⟩; rw [show i.toNat = N from HIN.out, hf]; have HB := Aside0.mk hb; clear hb)
          cases d with
          | zero =>
            have e3 : ((begins.length : Int) == wordsN l) = true := by have := HD.out; rw [beq_iff_eq]; omega
            have HRS := Aside0.mk (show R = some begins from HRR.out.symm.trans (rQ_zero paper l kept HNB.out))
            go_wp2_with (first | (go_at_call 69; (with_reducible refine (words_calls _ _ l _ (Kd.C_below HR1.out HB.out) HM.out.2.1).mono ?_); rintro e w2 ⟨rfl, rfl⟩) | ((with_reducible refine gate_builtin (b := .append) (xs := #[.tmp 47, .tmp 48]) rfl ?_); at_builtin; refine Kd.R_append_rows (Kd.int .i64) (w0 := w) w.heap.size rfl (.tmp 47) (.tmp 48) 28 3 (.int .i64 0) 8 rfl Try.underlying28 info3 rfl (by decide) (by omega) (.slice (some ⟨W1.heap.size, 0, none⟩) 0 0) [] begins _ _ _ (fun _ => True) (fun _ => False) rfl rfl ?bO ?bR (fun _ _ h => h) (fun _ h => h.elim) ?bF ?bB ?bS ?bL ?_; (case bR => exact Kd.C_below HR3.out (below_alloc HB.out _)); (case bB => exact below_alloc HB.out _); (case bF => exact (fun _ _ => trivial)); (case bO => exact R_lit0 w.heap.size W1 (below_size HB.out)); (case bS => exact below_size (below_alloc HB.out _)); (case bL => have := HBL.out; simp; omega); intro v6 w6 ho hb hg hat; rw [List.nil_append] at ho; obtain ⟨A', c', e6⟩ := Kd.R_slice ho; subst e6; have HO := Aside0.mk (Kd.R_reads' ho).2; have HB6 := Aside0.mk hb; clear ho hb hg hat))
            refine bodyPost_ret (results_tmp2 rfl _ _ _) rfl ?_
            rw [HRS.out]
            exact ⟨A', c', rfl, HO.out.1, HO.out.2, HB6.out⟩
          | succ d =>
            have e3 : ((begins.length : Int) == wordsN l) = false := by have := HD.out; rw [beq_eq_false_iff_ne]; omega
            have HRS := Aside0.mk (show firstAt (fun a => rQ paper l kept d (begins ++ [a])) (paper.length - (0 : Int).toNat) 0 = R from (rQ_succ paper l kept HNB.out).symm.trans HRR.out)
            go_wp2_with (go_at_call 69; (with_reducible refine (words_calls _ _ l _ (Kd.C_below HR1.out HB.out) HM.out.2.1).mono ?_); rintro e w2 ⟨rfl, rfl⟩)
            clear hsl
            go_loopg [12] paper.length (fun kq v12 w' => ∃ a : Int, v12 = .int .i64 a ∧ Aside0 (0 ≤ a ∧ kq + a.toNat = paper.length) ∧ Aside0 (firstAt (fun a => rQ paper l kept d (begins ++ [a])) (paper.length - a.toNat) a = R) ∧ Aside0 (Below w.heap.size w w'))
            case atStart => exact ⟨0, rfl, ⟨by simp⟩, HRS, HB⟩
            case round =>
              clear HRS HB
              obtain ⟨a, rfl, HA, HE, HB⟩ := hrel
              rename World => W2
              by_cases hat : a < (paper.length : Int)
              case neg =>
                have t1 : decide (a < (paper.length : Int)) = false := decide_eq_false hat
                have HRN := Aside0.mk (show R = none from HE.out.symm.trans (firstAt_end _ _ _ hat))
                clear hat HE
                go_wp2
                refine bodyPost_ret (results_tmp2 rfl _ _ _) rfl ?_
                rw [HRN.out]
                exact ⟨none, 0, rfl, Nat.le_refl _, C_none _, HB.out⟩
              case pos =>
                have t1 : decide (a < (paper.length : Int)) = true := decide_eq_true hat
                have he := HE.out
                rw [firstAt_step _ _ _ HA.out.1 hat] at he
                obtain ⟨r, hr⟩ : ∃ r, rQ paper l kept d (begins ++ [a]) = r := ⟨_, rfl⟩
                rw [hr] at he
                have HR9 := Aside0.mk hr
                have HE2 := Aside0.mk he
                have HAT := Aside0.mk hat
                have HW := Aside0.mk (show wrap64 (a + 1) = a + 1 by unfold wrap64; have := HA.out; have := HM.out; omega)
                have HLB := Aside0.mk (show (begins ++ [a]).length = begins.length + 1 by simp)
                clear he hr hat HE
                go_wp2_with (first | ((with_reducible refine gate_builtin (b := .append) (xs := #[.tmp 60, .tmp 61]) rfl ?_); at_builtin; refine Kd.R_append_rows (Kd.int .i64) (w0 := w) w.heap.size rfl (.tmp 60) (.tmp 61) 28 3 (.int .i64 0) 8 rfl Try.underlying28 info3 rfl (by decide) (by omega) (.slice (some ⟨W2.heap.size, 0, none⟩) 0 0) [] begins _ _ _ (fun _ => True) (fun _ => False) rfl rfl ?dO ?dR (fun _ _ h => h) (fun _ h => h.elim) ?dF ?dB ?dS ?dL ?_; (case dR => exact Kd.C_below HR3.out (below_alloc HB.out _)); (case dB => exact below_alloc HB.out _); (case dF => exact (fun _ _ => trivial)); (case dO => exact R_lit0 w.heap.size W2 (below_size HB.out)); (case dS => exact below_size (below_alloc HB.out _)); (case dL => have := HBL.out; simp; omega); intro v6 w6 ho hb hg hat; rw [List.nil_append] at ho; have HO6 := Aside0.mk ho; have HB6 := Aside0.mk hb; clear ho hb hg hat) | ((with_reducible refine gate_builtin (b := .append) (xs := #[.tmp 62, .tmp 64]) rfl ?_); at_builtin; refine Kd.R_append (Kd.int .i64) (w0 := w) w.heap.size rfl (.tmp 62) (.tmp 64) 28 3 (.int .i64 0) 8 rfl Try.underlying28 info3 rfl (by decide) (by omega) v6 begins a [.int .i64 a] (fun _ => True) (fun _ => False) rfl rfl ?aP (fun _ hk => hk.elim) ?aF ?aO ?aB ?aS ?aL ?_; (case aP => rfl); (case aB => exact HB6.out); (case aF => exact (fun _ _ => trivial)); (case aO => exact HO6.out); (case aS => exact below_size HB6.out); (case aL => have := HBL.out; simp; omega); intro v7 w7 ho hb hg hat; obtain ⟨A7, c7, e7⟩ := Kd.R_slice ho; rw [HLB.out] at e7; subst e7; have HC7 := Aside0.mk (Kd.R_reads' ho).2.2; have HB7 := Aside0.mk hb; clear ho hb hg hat HO6 HB6; have hF := (IH.out d rfl) (begins ++ [a]) A7 c7 w7 (by have := HD.out; rw [HLB.out]; push_cast at this ⊢; omega) (Kd.C_below HR0.out HB7.out) (Kd.C_below HR1.out HB7.out) (Kd.C_below HR2.out HB7.out) HC7.out; rw [HLB.out, HR9.out] at hF; have HFC := Aside0.mk hF; clear hF))
                refine HFC.out.mono ?_
                rintro e w8 ⟨A8, c8, rfl, hc8, hC8, hb⟩
                have HC8 := Aside0.mk (And.intro hc8 hC8)
                have HB8 := Aside0.mk (below_then HB7.out (below_size HB7.out) hb)
                clear hb hc8 hC8 HFC
                cases r with
                | none =>
                  simp only [Option.getD_none, Option.isSome_none, List.length_nil]
                  go_wp2
                  go_roundg (gk - 1)
                  case measure => have := HA.out; have := HAT.out; omega
                  case rel => exact ⟨a + 1, by first | rfl | rw [HW.out], ⟨by have := HA.out; have := HAT.out; omega⟩, HE2, HB8⟩
                | some q =>
                  simp only [Option.getD_some, Option.isSome_some]
                  go_wp2
                  refine bodyPost_ret (results_tmp2 rfl _ _ _) rfl ?_
                  rw [show R = some q from HE2.out.symm]
                  exact ⟨A8, c8, rfl, HC8.out.1, HC8.out.2, HB8.out⟩
      case neg =>
        have e1 : decide (0 < (begins.length : Int)) = false := decide_eq_false (by omega)
        have HNB := Aside0.mk (show ¬ (0 < begins.length ∧ fitsB paper (l.take (prefN l begins.length)) kept begins = false) from fun h => hb0 h.1)
        obtain ⟨W1, hW1⟩ : ∃ W1, W1 = w := ⟨_, rfl⟩
        have HB := Aside0.mk (show Below w.heap.size w W1 by rw [hW1]; exact Below.refl _ _)
        rw [← hW1]
        clear hW1
        cases d with
        | zero =>
          have e3 : ((begins.length : Int) == wordsN l) = true := by have := HD.out; rw [beq_iff_eq]; omega
          have HRS := Aside0.mk (show R = some begins from HRR.out.symm.trans (rQ_zero paper l kept HNB.out))
          go_wp2_with (first | (go_at_call 69; (with_reducible refine (words_calls _ _ l _ (Kd.C_below HR1.out HB.out) HM.out.2.1).mono ?_); rintro e w2 ⟨rfl, rfl⟩) | ((with_reducible refine gate_builtin (b := .append) (xs := #[.tmp 47, .tmp 48]) rfl ?_); at_builtin; refine Kd.R_append_rows (Kd.int .i64) (w0 := w) w.heap.size rfl (.tmp 47) (.tmp 48) 28 3 (.int .i64 0) 8 rfl Try.underlying28 info3 rfl (by decide) (by omega) (.slice (some ⟨W1.heap.size, 0, none⟩) 0 0) [] begins _ _ _ (fun _ => True) (fun _ => False) rfl rfl ?bO ?bR (fun _ _ h => h) (fun _ h => h.elim) ?bF ?bB ?bS ?bL ?_; (case bR => exact Kd.C_below HR3.out (below_alloc HB.out _)); (case bB => exact below_alloc HB.out _); (case bF => exact (fun _ _ => trivial)); (case bO => exact R_lit0 w.heap.size W1 (below_size HB.out)); (case bS => exact below_size (below_alloc HB.out _)); (case bL => have := HBL.out; simp; omega); intro v6 w6 ho hb hg hat; rw [List.nil_append] at ho; obtain ⟨A', c', e6⟩ := Kd.R_slice ho; subst e6; have HO := Aside0.mk (Kd.R_reads' ho).2; have HB6 := Aside0.mk hb; clear ho hb hg hat))
          refine bodyPost_ret (results_tmp2 rfl _ _ _) rfl ?_
          rw [HRS.out]
          exact ⟨A', c', rfl, HO.out.1, HO.out.2, HB6.out⟩
        | succ d =>
          have e3 : ((begins.length : Int) == wordsN l) = false := by have := HD.out; rw [beq_eq_false_iff_ne]; omega
          have HRS := Aside0.mk (show firstAt (fun a => rQ paper l kept d (begins ++ [a])) (paper.length - (0 : Int).toNat) 0 = R from (rQ_succ paper l kept HNB.out).symm.trans HRR.out)
          go_wp2_with (go_at_call 69; (with_reducible refine (words_calls _ _ l _ (Kd.C_below HR1.out HB.out) HM.out.2.1).mono ?_); rintro e w2 ⟨rfl, rfl⟩)
          clear hsl
          go_loopg [12] paper.length (fun kq v12 w' => ∃ a : Int, v12 = .int .i64 a ∧ Aside0 (0 ≤ a ∧ kq + a.toNat = paper.length) ∧ Aside0 (firstAt (fun a => rQ paper l kept d (begins ++ [a])) (paper.length - a.toNat) a = R) ∧ Aside0 (Below w.heap.size w w'))
          case atStart => exact ⟨0, rfl, ⟨by simp⟩, HRS, HB⟩
          case round =>
            clear HRS HB
            obtain ⟨a, rfl, HA, HE, HB⟩ := hrel
            rename World => W2
            by_cases hat : a < (paper.length : Int)
            case neg =>
              have t1 : decide (a < (paper.length : Int)) = false := decide_eq_false hat
              have HRN := Aside0.mk (show R = none from HE.out.symm.trans (firstAt_end _ _ _ hat))
              clear hat HE
              go_wp2
              refine bodyPost_ret (results_tmp2 rfl _ _ _) rfl ?_
              rw [HRN.out]
              exact ⟨none, 0, rfl, Nat.le_refl _, C_none _, HB.out⟩
            case pos =>
              have t1 : decide (a < (paper.length : Int)) = true := decide_eq_true hat
              have he := HE.out
              rw [firstAt_step _ _ _ HA.out.1 hat] at he
              obtain ⟨r, hr⟩ : ∃ r, rQ paper l kept d (begins ++ [a]) = r := ⟨_, rfl⟩
              rw [hr] at he
              have HR9 := Aside0.mk hr
              have HE2 := Aside0.mk he
              have HAT := Aside0.mk hat
              have HW := Aside0.mk (show wrap64 (a + 1) = a + 1 by unfold wrap64; have := HA.out; have := HM.out; omega)
              have HLB := Aside0.mk (show (begins ++ [a]).length = begins.length + 1 by simp)
              clear he hr hat HE
              go_wp2_with (first | ((with_reducible refine gate_builtin (b := .append) (xs := #[.tmp 60, .tmp 61]) rfl ?_); at_builtin; refine Kd.R_append_rows (Kd.int .i64) (w0 := w) w.heap.size rfl (.tmp 60) (.tmp 61) 28 3 (.int .i64 0) 8 rfl Try.underlying28 info3 rfl (by decide) (by omega) (.slice (some ⟨W2.heap.size, 0, none⟩) 0 0) [] begins _ _ _ (fun _ => True) (fun _ => False) rfl rfl ?dO ?dR (fun _ _ h => h) (fun _ h => h.elim) ?dF ?dB ?dS ?dL ?_; (case dR => exact Kd.C_below HR3.out (below_alloc HB.out _)); (case dB => exact below_alloc HB.out _); (case dF => exact (fun _ _ => trivial)); (case dO => exact R_lit0 w.heap.size W2 (below_size HB.out)); (case dS => exact below_size (below_alloc HB.out _)); (case dL => have := HBL.out; simp; omega); intro v6 w6 ho hb hg hat; rw [List.nil_append] at ho; have HO6 := Aside0.mk ho; have HB6 := Aside0.mk hb; clear ho hb hg hat) | ((with_reducible refine gate_builtin (b := .append) (xs := #[.tmp 62, .tmp 64]) rfl ?_); at_builtin; refine Kd.R_append (Kd.int .i64) (w0 := w) w.heap.size rfl (.tmp 62) (.tmp 64) 28 3 (.int .i64 0) 8 rfl Try.underlying28 info3 rfl (by decide) (by omega) v6 begins a [.int .i64 a] (fun _ => True) (fun _ => False) rfl rfl ?aP (fun _ hk => hk.elim) ?aF ?aO ?aB ?aS ?aL ?_; (case aP => rfl); (case aB => exact HB6.out); (case aF => exact (fun _ _ => trivial)); (case aO => exact HO6.out); (case aS => exact below_size HB6.out); (case aL => have := HBL.out; simp; omega); intro v7 w7 ho hb hg hat; obtain ⟨A7, c7, e7⟩ := Kd.R_slice ho; rw [HLB.out] at e7; subst e7; have HC7 := Aside0.mk (Kd.R_reads' ho).2.2; have HB7 := Aside0.mk hb; clear ho hb hg hat HO6 HB6; have hF := (IH.out d rfl) (begins ++ [a]) A7 c7 w7 (by have := HD.out; rw [HLB.out]; push_cast at this ⊢; omega) (Kd.C_below HR0.out HB7.out) (Kd.C_below HR1.out HB7.out) (Kd.C_below HR2.out HB7.out) HC7.out; rw [HLB.out, HR9.out] at hF; have HFC := Aside0.mk hF; clear hF))
              refine HFC.out.mono ?_
              rintro e w8 ⟨A8, c8, rfl, hc8, hC8, hb⟩
              have HC8 := Aside0.mk (And.intro hc8 hC8)
              have HB8 := Aside0.mk (below_then HB7.out (below_size HB7.out) hb)
              clear hb hc8 hC8 HFC
              cases r with
              | none =>
                simp only [Option.getD_none, Option.isSome_none, List.length_nil]
                go_wp2
                go_roundg (gk - 1)
                case measure => have := HA.out; have := HAT.out; omega
                case rel => exact ⟨a + 1, by first | rfl | rw [HW.out], ⟨by have := HA.out; have := HAT.out; omega⟩, HE2, HB8⟩
              | some q =>
                simp only [Option.getD_some, Option.isSome_some]
                go_wp2
                refine bodyPost_ret (results_tmp2 rfl _ _ _) rfl ?_
                rw [show R = some q from HE2.out.symm]
                exact ⟨A8, c8, rfl, HC8.out.1, HC8.out.2, HB8.out⟩
theorem rQuote_calls (hm : paper.length ≤ 1000000 ∧ l.length ≤ 1000000 ∧ kept.length ≤ 1000000) (hc1 : l.length ≤ c1) (hqs : ∀ s ∈ l, s.size ≤ 1000000) (d : Nat) : QC A0 c0 paper A1 c1 l A2 c2 kept d := by
  induction d with
  | zero => exact rQuote_step A0 c0 paper A1 c1 l A2 c2 kept hm hc1 hqs 0 (fun d' h => by cases h)
  | succ d ih => exact rQuote_step A0 c0 paper A1 c1 l A2 c2 kept hm hc1 hqs (d + 1) (fun d' h => by cases h; exact ih)
end
end Go.Proofs.Ythpheknchikodaa.P

/- The search for the first places, in plain words: what it finds fits and is the least; the reference's search finds the same. Conditions: none. -/
namespace Go.Proofs.Ythpheknchikodaa.P
open Go.RowKit Go.Proofs.YthpheknchikodaaW.PrintWords Go.Proofs.YthpheknchikodaaW.PrintLast
set_option linter.unusedVariables false
set_option linter.unusedSimpArgs false

/-- Before, or the same: the first place at which they differ is less. -/
def Lex : List Int → List Int → Prop
  | a :: l, b :: m => a < b ∨ (a = b ∧ Lex l m)
  | _, _ => True
theorem findAt_some {ok : Int → Bool} {next : Int → Option (List Int)} : ∀ (c : Nat) (i : Int) (r : List Int), findAt ok next c i = some r → ∃ a r', r = a :: r' ∧ i ≤ a ∧ a < i + (c : Int) ∧ ok a = true ∧ next a = some r' ∧ ∀ b, i ≤ b → b < a → ok b = true → next b = none
  | 0, i, r, h => by cases h
  | c + 1, i, r, h => by
    rw [findAt] at h
    by_cases ho : ok i = true
    · rw [if_pos ho] at h
      cases hn : next i with
      | some q =>
        rw [hn] at h
        cases h
        exact ⟨i, q, rfl, Int.le_refl _, by omega, ho, hn, fun b h1 h2 => absurd h2 (by omega)⟩
      | none =>
        rw [hn] at h
        obtain ⟨a, r', e, h1, h2, h3, h4, h5⟩ := findAt_some c (i + 1) r h
        refine ⟨a, r', e, by omega, by omega, h3, h4, fun b hb1 hb2 hb3 => ?_⟩
        by_cases e : b = i
        · rw [e]; exact hn
        · exact h5 b (by omega) hb2 hb3
    · rw [if_neg ho] at h
      obtain ⟨a, r', e, h1, h2, h3, h4, h5⟩ := findAt_some c (i + 1) r h
      refine ⟨a, r', e, by omega, by omega, h3, h4, fun b hb1 hb2 hb3 => ?_⟩
      by_cases e : b = i
      · rw [e] at hb3; exact absurd hb3 ho
      · exact h5 b (by omega) hb2 hb3
theorem findAt_none {ok : Int → Bool} {next : Int → Option (List Int)} : ∀ (c : Nat) (i : Int), findAt ok next c i = none → ∀ b, i ≤ b → b < i + (c : Int) → ok b = true → next b = none
  | 0, i, _ => fun b h1 h2 => absurd h2 (by omega)
  | c + 1, i, h => by
    rw [findAt] at h
    intro b hb1 hb2 hb3
    by_cases ho : ok i = true
    · rw [if_pos ho] at h
      cases hn : next i with
      | some q => rw [hn] at h; cases h
      | none =>
        rw [hn] at h
        by_cases e : b = i
        · rw [e]; exact hn
        · exact findAt_none c (i + 1) h b (by omega) (by omega) hb3
    · rw [if_neg ho] at h
      by_cases e : b = i
      · rw [e] at hb3; exact absurd hb3 ho
      · exact findAt_none c (i + 1) h b (by omega) (by omega) hb3
section
variable {paper kept : List ByteArray} {F : List S157}
theorem findP_ok : ∀ (d : Nat) (last : Int) (r : List Int), findP paper kept F d last = some r → r.length = d ∧ provesFrom paper kept F ((F.length : Int) - (d : Int)) last r = true
  | 0, last, r, h => by
    rw [findP] at h
    cases h
    exact ⟨rfl, rfl⟩
  | d + 1, last, r, h => by
    rw [findP] at h
    obtain ⟨a, r', rfl, h1, h2, h3, h4, -⟩ := findAt_some _ _ _ h
    obtain ⟨hl, hp⟩ := findP_ok d a r' h4
    refine ⟨by rw [List.length_cons, hl], ?_⟩
    rw [provesFrom, h3, Bool.true_and, show (F.length : Int) - ((d + 1 : Nat) : Int) + 1 = (F.length : Int) - (d : Int) by push_cast; omega]
    exact hp
theorem may_lt {n last a : Int} (h : mayB paper kept F n last a = true) (hn : n ≠ 0) : last < a := by
  unfold mayB at h
  rw [beq_eq_false_iff_ne.mpr hn] at h
  simp at h
  exact h.2.2.1
theorem findP_least : ∀ (d : Nat) (last : Int) (l : List Int), d ≤ F.length → l.length = d → (d = F.length → last = -1) → provesFrom paper kept F ((F.length : Int) - (d : Int)) last l = true → ∃ r, findP paper kept F d last = some r ∧ Lex r l
  | 0, last, l, _, hl, _, _ => ⟨[], rfl, trivial⟩
  | d + 1, last, l, hd, hl, h0, hp => by
    obtain ⟨a, t, rfl⟩ : ∃ a t, l = a :: t := by
      cases l with
      | nil => cases hl
      | cons a t => exact ⟨a, t, rfl⟩
    rw [provesFrom, Bool.and_eq_true] at hp
    obtain ⟨hm, ht⟩ := hp
    rw [show (F.length : Int) - ((d + 1 : Nat) : Int) + 1 = (F.length : Int) - (d : Int) by push_cast; omega] at ht
    obtain ⟨r', hr', hx⟩ := findP_least d a t (by omega) (by simpa using hl) (fun e => by omega) ht
    have hge := may_ge hm
    have hlt : last < a := by
      by_cases e : d + 1 = F.length
      · have := h0 e; omega
      · exact may_lt hm (by omega)
    rw [findP]
    cases hf : findAt (mayB paper kept F ((F.length : Int) - ((d + 1 : Nat) : Int)) last) (findP paper kept F d) ((paper.length : Int) - (last + 1)).toNat (last + 1) with
    | none =>
      have := findAt_none _ _ hf a (by omega) (by omega) hm
      rw [hr'] at this
      cases this
    | some r =>
      obtain ⟨b, q, rfl, h1, h2, h3, h4, h5⟩ := findAt_some _ _ _ hf
      refine ⟨b :: q, rfl, ?_⟩
      unfold Lex
      by_cases e : b < a
      · exact .inl e
      · by_cases e2 : a < b
        · have := h5 a (by omega) e2 hm
          rw [hr'] at this
          cases this
        · have e3 : b = a := by omega
          subst e3
          rw [hr'] at h4
          cases h4
          exact .inr ⟨rfl, hx⟩
theorem may_kept {more : ByteArray} {n last a : Int} (h : mayB paper (kept ++ [more]) F n last a = true) : mayB paper kept F n last a = true := by
  unfold mayB at h ⊢
  simp only [Bool.and_eq_true, Bool.or_eq_true] at h ⊢
  refine ⟨h.1, h.2.1, ?_⟩
  rcases h.2.2 with h | ⟨h1, h2, h3⟩
  · exact .inl h
  · refine .inr ⟨h1, h2, ?_⟩
    rw [List.all_eq_true] at h3 ⊢
    intro s hs
    have := h3 s hs
    unfold hasText at this ⊢
    rw [List.any_append] at this
    cases hq : kept.any fun x => s.toList == x.toList
    · rfl
    · rw [hq] at this; exact this
theorem proves_kept {more : ByteArray} : ∀ (l : List Int) (n last : Int), provesFrom paper (kept ++ [more]) F n last l = true → provesFrom paper kept F n last l = true
  | [], _, _, _ => rfl
  | a :: l, n, last, h => by
    rw [provesFrom, Bool.and_eq_true] at h ⊢
    exact ⟨may_kept h.1, proves_kept l _ _ h.2⟩
theorem may_congr {F' : List S157} {n last a : Int} (h : rd_T157 F n = rd_T157 F' n) : mayB paper kept F n last a = mayB paper kept F' n last a := by
  unfold mayB
  rw [h]
theorem proves_congr {F' : List S157} : ∀ (l : List Int) (n last : Int), (∀ j : Int, n ≤ j → j < n + l.length → rd_T157 F j = rd_T157 F' j) → provesFrom paper kept F n last l = provesFrom paper kept F' n last l
  | [], _, _, _ => rfl
  | a :: l, n, last, h => by
    rw [provesFrom, provesFrom, may_congr (h n (Int.le_refl _) (by simp; omega)), proves_congr l (n + 1) a (fun j h1 h2 => h j (by omega) (by rw [List.length_cons]; push_cast; omega))]
end
theorem pieces_take : ∀ (l : List ByteArray) (b : Bool) (L : List S157) (h : Nat), (h : Int) ≤ wordsN l → piecesFrom b L (l.take (prefN l h)) = (piecesFrom b L l).take (L.length + h)
  | l, b, L, 0, _ => by
    obtain ⟨M, e, -⟩ := piecesFrom_pre l b L
    rw [e, show prefN l 0 = 0 by cases l <;> rfl, List.take_zero, piecesFrom]
    simp
  | [], b, L, h + 1, hw => by rw [wordsN] at hw; omega
  | s :: l, b, L, h + 1, hw => by
    rw [wordsN] at hw
    rw [prefN, Nat.add_comm 1, List.take_succ_cons, piecesFrom, piecesFrom]
    cases hg : isGap s
    case true =>
      rw [hg, if_pos rfl] at hw
      simp only [if_true]
      exact pieces_take l true L (h + 1) (by omega)
    case false =>
      rw [hg, if_neg (by simp)] at hw
      simp only [Bool.false_eq_true, if_false]
      have ih := pieces_take l false (L ++ [⟨s, b || decide (L.length = 0)⟩]) h (by omega)
      rw [ih]
      congr 1
      simp
      omega
theorem pieces_len (l : List ByteArray) : ((piecesOf l).length : Int) = wordsN l := by
  obtain ⟨M, e, h⟩ := piecesFrom_pre l false []
  unfold piecesOf
  rw [e, List.nil_append]
  exact h
theorem rd157_take (F : List S157) (k : Nat) (j : Int) (h0 : 0 ≤ j) (h : j < k) : rd_T157 (F.take k) j = rd_T157 F j := by
  unfold rd_T157
  rw [List.getD_eq_getElem?_getD, List.getD_eq_getElem?_getD, List.getElem?_take, if_pos (by omega)]
theorem fits_prefix (paper q kept : List ByteArray) (begins : List Int) (h : (begins.length : Int) ≤ wordsN q) : fitsB paper (q.take (prefN q begins.length)) kept begins = provesFrom paper kept (piecesOf q) 0 (-1) begins := by
  unfold fitsB
  rw [fits_proves paper kept begins _ false [] 0 rfl, pieces_take q false [] begins.length h]
  have hl := pieces_len q
  unfold piecesOf at hl ⊢
  rw [decide_eq_true (by rw [List.length_take]; simp; omega), Bool.true_and]
  refine proves_congr begins 0 (-1) (fun j h0 h1 => ?_)
  rw [show ([] : List S157).length + begins.length = begins.length by simp]
  exact rd157_take _ _ _ h0 (by omega)
def lastAfter : Int → List Int → Int
  | last, [] => last
  | _, a :: l => lastAfter a l
theorem lastAfter_snoc : ∀ (l : List Int) (last a : Int), lastAfter last (l ++ [a]) = a
  | [], _, _ => rfl
  | b :: l, _, a => lastAfter_snoc l b a
section
variable {paper kept : List ByteArray} {F : List S157}
theorem proves_snoc : ∀ (l : List Int) (n last a : Int), provesFrom paper kept F n last (l ++ [a]) = (provesFrom paper kept F n last l && mayB paper kept F (n + l.length) (lastAfter last l) a)
  | [], n, last, a => by simp [provesFrom, lastAfter]
  | b :: l, n, last, a => by
    rw [List.cons_append, provesFrom, provesFrom, proves_snoc l (n + 1) b a, Bool.and_assoc, lastAfter, List.length_cons]
    congr 3
    push_cast
    omega
theorem last_range : ∀ (l : List Int) (n last : Int), provesFrom paper kept F n last l = true → l ≠ [] → 0 ≤ lastAfter last l ∧ lastAfter last l < (paper.length : Int)
  | [], _, _, _, h => absurd rfl h
  | [a], n, last, h, _ => by
    rw [provesFrom, Bool.and_eq_true] at h
    exact may_ge h.1
  | a :: b :: l, n, last, h, _ => by
    rw [provesFrom, Bool.and_eq_true] at h
    exact last_range (b :: l) (n + 1) a h.2 (by simp)
end
theorem firstAt_skip {f : Int → Option (List Int)} : ∀ (m c : Nat) (i : Int), (∀ a, i ≤ a → a < i + m → f a = none) → firstAt f (m + c) i = firstAt f c (i + m)
  | 0, c, i, _ => by simp
  | m + 1, c, i, h => by
    rw [show m + 1 + c = (m + c) + 1 by omega, firstAt, h i (Int.le_refl _) (by omega)]
    simp only
    rw [firstAt_skip m c (i + 1) (fun a h1 h2 => h a (by omega) (by push_cast at h2 ⊢; omega))]
    congr 1
    push_cast
    omega
theorem firstAt_find {f : Int → Option (List Int)} {ok : Int → Bool} {next : Int → Option (List Int)} (P : List Int) (h : ∀ a, f a = if ok a = true then (next a).map (fun r => P ++ a :: r) else none) : ∀ (c : Nat) (i : Int), firstAt f c i = (findAt ok next c i).map (fun r => P ++ r)
  | 0, i => rfl
  | c + 1, i => by
    rw [firstAt, findAt, h i]
    by_cases ho : ok i = true
    · rw [if_pos ho, if_pos ho]
      cases hn : next i with
      | some q => rfl
      | none => exact firstAt_find P h c (i + 1)
    · rw [if_neg ho, if_neg ho]
      exact firstAt_find P h c (i + 1)
theorem rQ_find (paper q kept : List ByteArray) : ∀ (d : Nat) (begins : List Int), (begins.length : Int) + d = wordsN q →
    rQ paper q kept d begins = if provesFrom paper kept (piecesOf q) 0 (-1) begins = true then (findP paper kept (piecesOf q) d (lastAfter (-1) begins)).map (fun r => begins ++ r) else none := by
  intro d
  induction d with
  | zero =>
    intro begins hb
    rw [rQ, fits_prefix paper q kept begins (by omega)]
    by_cases hp : provesFrom paper kept (piecesOf q) 0 (-1) begins = true
    · rw [if_neg (by rw [hp]; simp), if_pos hp, findP]
      simp
    · have h0 : 0 < begins.length := by
        cases begins with
        | nil => exact absurd rfl hp
        | cons a l => simp
      rw [if_pos ⟨h0, Bool.eq_false_iff.2 hp⟩, if_neg hp]
  | succ d ih =>
    intro begins hb
    rw [rQ, fits_prefix paper q kept begins (by push_cast at hb; omega)]
    by_cases hp : provesFrom paper kept (piecesOf q) 0 (-1) begins = true
    · rw [if_neg (by rw [hp]; simp), if_pos hp]
      have hl := pieces_len q
      have hk : ((piecesOf q).length : Int) - ((d + 1 : Nat) : Int) = (begins.length : Int) := by push_cast at hb ⊢; omega
      have hf : ∀ a, rQ paper q kept d (begins ++ [a]) = if mayB paper kept (piecesOf q) ((piecesOf q).length - ((d + 1 : Nat) : Int)) (lastAfter (-1) begins) a = true then (findP paper kept (piecesOf q) d a).map (fun r => begins ++ a :: r) else none := by
        intro a
        rw [ih (begins ++ [a]) (by rw [List.length_append, List.length_singleton]; push_cast at hb ⊢; omega), proves_snoc, hp, Bool.true_and, Int.zero_add, hk, lastAfter_snoc]
        simp only [List.append_assoc, List.singleton_append]
      have hlast : lastAfter (-1) begins = -1 ∧ begins = [] ∨ 0 ≤ lastAfter (-1) begins ∧ lastAfter (-1) begins < (paper.length : Int) ∧ begins ≠ [] := by
        by_cases e : begins = []
        · subst e; exact .inl ⟨rfl, rfl⟩
        · have := last_range begins 0 (-1) hp e
          exact .inr ⟨this.1, this.2, e⟩
      rw [findP]
      have hsk : firstAt (fun a => rQ paper q kept d (begins ++ [a])) paper.length 0 = firstAt (fun a => rQ paper q kept d (begins ++ [a])) ((paper.length : Int) - (lastAfter (-1) begins + 1)).toNat (lastAfter (-1) begins + 1) := by
        rcases hlast with ⟨e, _⟩ | ⟨h1, h2, h3⟩
        · rw [e]
          simp
        · have h := firstAt_skip (f := fun a => rQ paper q kept d (begins ++ [a])) (lastAfter (-1) begins + 1).toNat ((paper.length : Int) - (lastAfter (-1) begins + 1)).toNat 0 (fun a ha1 ha2 => by
            simp only [hf a]
            rw [if_neg]
            intro hm
            have := may_lt hm (by rw [hk]; intro e; exact h3 (List.eq_nil_of_length_eq_zero (by omega)))
            omega)
          rw [show (lastAfter (-1) begins + 1).toNat + ((paper.length : Int) - (lastAfter (-1) begins + 1)).toNat = paper.length by omega, show 0 + (((lastAfter (-1) begins + 1).toNat : Nat) : Int) = lastAfter (-1) begins + 1 by omega] at h
          exact h
      rw [hsk]
      exact firstAt_find begins hf _ _
    · have h0 : 0 < begins.length := by
        cases begins with
        | nil => exact absurd rfl hp
        | cons a l => simp
      rw [if_pos ⟨h0, Bool.eq_false_iff.2 hp⟩, if_neg hp]
theorem rQ_all (paper q kept : List ByteArray) : rQ paper q kept (piecesOf q).length [] = findP paper kept (piecesOf q) (piecesOf q).length (-1) := by
  rw [rQ_find paper q kept _ [] (by have := pieces_len q; simp; omega), if_pos (provesFrom_nil ..)]
  cases h : findP paper kept (piecesOf q) (piecesOf q).length (-1) <;> simp [lastAfter, h]
/-- Numbers in a row. -/
def seqI : Int → Nat → List Int
  | _, 0 => []
  | a, n + 1 => a :: seqI (a + 1) n
theorem seqI_snoc : ∀ (n : Nat) (a : Int), seqI a (n + 1) = seqI a n ++ [a + n]
  | 0, a => by simp [seqI]
  | n + 1, a => by
    rw [seqI, seqI_snoc n (a + 1), seqI, List.cons_append]
    congr 3
    push_cast
    omega
theorem seqI_len : ∀ (n : Nat) (a : Int), (seqI a n).length = n
  | 0, _ => rfl
  | n + 1, a => by rw [seqI, List.length_cons, seqI_len n]
theorem span_len (l : List ByteArray) (h : ∀ s ∈ l, isGap s = false) : wordsN l = l.length := by
  induction l with
  | nil => rfl
  | cons s l ih =>
    rw [wordsN, h s (by simp), if_neg (by simp), ih (fun x hx => h x (List.mem_cons_of_mem _ hx)), List.length_cons]
    push_cast
    omega
theorem span_proves (paper kept : List ByteArray) : ∀ (n : Nat) (a : Int) (b : Bool) (L : List S157) (last : Int), 0 ≤ a → a + n ≤ (paper.length : Int) → (∀ i : Int, a ≤ i → i < a + n → isGap (rdOf ByteArray.empty paper i) = false) → (L.length = 0 ∨ last = a - 1) →
    provesFrom paper kept (piecesFrom b L ((paper.take (a + n).toNat).drop a.toNat)) (L.length : Int) last (seqI a n) = true
  | 0, a, b, L, last, _, _, _, _ => rfl
  | n + 1, a, b, L, last, h0, h1, hg, hl => by
    have e : (paper.take (a + ((n + 1 : Nat) : Int)).toNat).drop a.toNat = rdOf ByteArray.empty paper a :: (paper.take (a + 1 + (n : Int)).toNat).drop (a + 1).toNat := by
      rw [show a + ((n + 1 : Nat) : Int) = a + 1 + (n : Int) by push_cast; omega]
      have h' : a.toNat < (paper.take (a + 1 + (n : Int)).toNat).length := by rw [List.length_take]; push_cast at h1 ⊢; omega
      have h2 : a.toNat < paper.length := by push_cast at h1; omega
      rw [List.drop_eq_getElem_cons h', List.getElem_take, show (a + 1).toNat = a.toNat + 1 by omega]
      simp only [rdOf, List.getD_eq_getElem?_getD, List.getElem?_eq_getElem h2, Option.getD_some]
    rw [e, piecesFrom, hg a (Int.le_refl _) (by push_cast; omega), if_neg (by simp), seqI, provesFrom]
    have ih := span_proves paper kept n (a + 1) false (L ++ [⟨rdOf ByteArray.empty paper a, b || decide (L.length = 0)⟩]) a (by omega) (by push_cast at h1; omega) (fun i h2 h3 => hg i (by omega) (by push_cast; omega)) (.inr (by omega))
    rw [List.length_append, List.length_singleton] at ih
    push_cast at ih
    rw [ih, Bool.and_true]
    obtain ⟨M, hM, -⟩ := piecesFrom_pre ((paper.take (a + 1 + (n : Int)).toNat).drop (a + 1).toNat) false (L ++ [⟨rdOf ByteArray.empty paper a, b || decide (L.length = 0)⟩])
    rw [hM, List.append_assoc, List.singleton_append]
    have hp := rd157_app L M ⟨rdOf ByteArray.empty paper a, b || decide (L.length = 0)⟩ (L.length : Int) rfl
    generalize L ++ (⟨rdOf ByteArray.empty paper a, b || decide (L.length = 0)⟩ : S157) :: M = F at hp ⊢
    unfold mayB
    rw [hp]
    have hw : withinB a 0 ((paper.length : Int) - 1) = true := by unfold withinB; simp; push_cast at h1; omega
    rw [hw, Bool.true_and]
    simp only [beq_self_eq_true, Bool.or_true, Bool.true_and]
    rcases hl with hl | hl
    · rw [hl]; rfl
    · by_cases hz : (L.length : Int) = 0
      · rw [beq_iff_eq.mpr hz]; rfl
      · rw [hl, decide_eq_true (by omega), show a - 1 + 1 = a by omega, beq_self_eq_true, Bool.or_true]
        rw [List.drop_eq_nil_of_le (by rw [List.length_take]; omega)]
        simp
theorem span_fits {paper kept : List ByteArray} {q : List ByteArray} (hR : quoteOk paper q kept = true) (a : Int) (n : Nat) (h0 : 0 ≤ a) (hn : 0 < n) (h1 : a + n ≤ (paper.length : Int)) (hg : ∀ i : Int, a ≤ i → i < a + n → isGap (rdOf ByteArray.empty paper i) = false) :
    proveQB paper ((paper.take (a + n).toNat).drop a.toNat) kept (seqI a n) = true := by
  obtain ⟨q1, q2, -, q4, -, -⟩ := quoteOk_facts hR
  have hlen : ((paper.take (a + n).toNat).drop a.toNat).length = n := by rw [List.length_drop, List.length_take]; omega
  have hgap : ∀ s ∈ (paper.take (a + n).toNat).drop a.toNat, isGap s = false := by
    intro s hs
    obtain ⟨i, hi, rfl⟩ := List.mem_iff_getElem.1 hs
    rw [hlen] at hi
    have h := hg (a + i) (by omega) (by omega)
    rw [List.getElem_drop, List.getElem_take]
    have e : (a + (i : Int)).toNat = a.toNat + i := by omega
    unfold rdOf at h
    rw [e, List.getD_eq_getElem?_getD, List.getElem?_eq_getElem (by omega), Option.getD_some] at h
    exact h
  have hpl : (piecesOf ((paper.take (a + n).toNat).drop a.toNat)).length = n := by
    have h := pieces_len ((paper.take (a + n).toNat).drop a.toNat)
    rw [span_len _ hgap, hlen] at h
    omega
  have hok : quoteOk paper ((paper.take (a + n).toNat).drop a.toNat) kept = true := by
    unfold quoteOk at hR ⊢
    simp only [Bool.and_eq_true] at hR ⊢
    obtain ⟨⟨⟨⟨⟨b1, b2⟩, b3⟩, b4⟩, b5⟩, b6⟩ := hR
    refine ⟨⟨⟨⟨⟨b1, ?_⟩, b3⟩, b4⟩, ?_⟩, b6⟩
    · rw [hlen]; unfold withinB; simp; omega
    · rw [List.all_eq_true] at b4 ⊢
      intro s hs
      exact b4 s (List.mem_of_mem_take (List.mem_of_mem_drop hs))
  unfold proveQB
  rw [hok, hpl, decide_eq_true hn, seqI_len, decide_eq_true rfl, Bool.true_and, Bool.true_and, Bool.true_and]
  exact span_proves paper kept n a false [] (-1) h0 h1 hg (.inl rfl)
end Go.Proofs.Ythpheknchikodaa.P

/- What Quote of the program answers, in plain words; copies of lists of numbers. Conditions: none beyond the lists' being readable. -/
namespace Go.Proofs.Ythpheknchikodaa.P
open Go.RowKit Go.Proofs.YthpheknchikodaaW.PrintWords Go.Proofs.YthpheknchikodaaW.PrintLast
set_option linter.unusedVariables false
set_option linter.unusedSimpArgs false
theorem ints_m0 (l : List Int) (hl : l.length ≤ 1000000) : ∀ (n : Nat) (i : Nat), i + n = l.length → palantypelaw05_ints.l0 (n + 1) l l (i : Int) = some true
  | 0, i, h => by
    rw [palantypelaw05_ints.l0, if_neg (by omega)]
  | n + 1, i, h => by
    rw [palantypelaw05_ints.l0, if_pos (by omega), if_pos (by omega), if_pos (by omega), if_pos rfl, show wrap64 ((i : Int) + 1) = ((i + 1 : Nat) : Int) by unfold wrap64; omega]
    exact ints_m0 l hl n (i + 1) (by omega)
theorem ints_same (l : List Int) (hl : l.length ≤ 1000000) : palantypelaw05_ints.f (l.length + 1) l l = some true := by
  unfold palantypelaw05_ints.f
  rw [if_pos rfl]
  exact ints_m0 l hl l.length 0 (by omega)
def foundOf : Option (List Int) → List Int × Int
  | some l => (l, 0)
  | none => ([], 7)
def qSpec (paper quotation kept : List ByteArray) : List Int × Int :=
  if rightQB paper quotation kept = true then foundOf (findP paper kept (piecesOf quotation) (piecesOf quotation).length (-1)) else ([], 1)
theorem qSpec_f (paper quotation kept : List ByteArray) : office_Quote.f paper quotation kept = some (qSpec paper quotation kept) := by
  unfold office_Quote.f qSpec
  rw [right_ok]
  cases h : quoteOk paper quotation kept
  · rw [if_neg (by simp), Bool.false_and, if_neg (by simp)]
  · rw [if_pos rfl, Bool.true_and]
    by_cases h2 : 0 < (piecesOf quotation).length
    · rw [if_pos h2, decide_eq_true h2, if_pos rfl]
      cases findP paper kept (piecesOf quotation) (piecesOf quotation).length (-1) <;> rfl
    · rw [if_neg h2, decide_eq_false h2, if_neg (by simp)]
theorem pQuote_calls (A0 : Option Addr) (c0 : Nat) (l0 : List ByteArray) (A1 : Option Addr) (c1 : Nat) (l1 : List ByteArray) (A2 : Option Addr) (c2 : Nat) (l2 : List ByteArray) (r : List Int × Int) (hr : qSpec l0 l1 l2 = r) (w : World)
    (hr0 : Kd.C Kd.string w A0 l0.length l0) (hc0 : l0.length ≤ c0) (hr1 : Kd.C Kd.string w A1 l1.length l1) (hc1 : l1.length ≤ c1) (hr2 : Kd.C Kd.string w A2 l2.length l2) (hc2 : l2.length ≤ c2) :
    Calls Try.prog 35 #[.slice A0 l0.length c0, .slice A1 l1.length c1, .slice A2 l2.length c2] w fun e w' => ∃ (A : Option Addr) (c : Nat), e = .returned (.tuple #[.slice A r.1.length c, .int .i64 r.2]) ∧ r.1.length ≤ c ∧ Kd.C (Kd.int .i64) w' A r.1.length r.1 ∧ Below w.heap.size w w' := by
  have hf := qSpec_f l0 l1 l2
  rw [hr] at hf
  refine (office_Quote.calls A0 c0 l0 A1 c1 l1 A2 c2 l2 r.1 r.2 w hr0 hc0 hr1 hc1 hr2 hc2 hf).mono ?_
  rintro e w' ⟨v, rfl, ho, hb⟩
  obtain ⟨A, c, e⟩ := Kd.R_slice ho
  subst e
  exact ⟨A, c, rfl, (Kd.R_reads' ho).2.1, (Kd.R_reads' ho).2.2, hb⟩
theorem short_facts {l : List ByteArray} (h : shortB l = true) : l.length ≤ 1000000 ∧ l.length ≤ 90 ∧ ∀ s ∈ l, s.size ≤ 1000000 := by
  unfold shortB at h
  simp at h
  exact ⟨by omega, h.2, fun s hs => Nat.le_trans (h.1 s hs) (by decide)⟩
/-- What is found fits, and is no longer than the quotation. -/
theorem found_fits {paper q kept : List ByteArray} {l : List Int} (hR : rightQB paper q kept = true) (h : findP paper kept (piecesOf q) (piecesOf q).length (-1) = some l) : fitsB paper q kept l = true ∧ proveQB paper q kept l = true ∧ l.length ≤ 80 ∧ l.length = (piecesOf q).length := by
  obtain ⟨hl, hp⟩ := findP_ok _ _ _ h
  rw [Int.sub_self] at hp
  have hR' := hR
  rw [right_ok, Bool.and_eq_true] at hR'
  have hpr : proveQB paper q kept l = true := by
    unfold proveQB
    rw [hR'.1, hR'.2, decide_eq_true hl, hp]
    rfl
  have hq := (quoteOk_facts hR'.1).2.2.2.2.2
  refine ⟨?_, hpr, by omega, hl⟩
  rw [prove_fits, hR, Bool.true_and] at hpr
  exact hpr
theorem found_least {paper q kept : List ByteArray} {l : List Int} (h : proveQB paper q kept l = true) : ∃ r, findP paper kept (piecesOf q) (piecesOf q).length (-1) = some r ∧ Lex r l ∧ r.length = l.length := by
  unfold proveQB at h
  simp only [Bool.and_eq_true, decide_eq_true_eq] at h
  obtain ⟨-, -, h3, h4⟩ := h
  obtain ⟨r, hr, hx⟩ := findP_least (F := piecesOf q) (piecesOf q).length (-1) l (Nat.le_refl _) h3 (fun _ => rfl) (by rw [Int.sub_self]; exact h4)
  exact ⟨r, hr, hx, by rw [(findP_ok _ _ _ hr).1, h3]⟩
theorem prove_kept {paper q kept : List ByteArray} {more : ByteArray} {l : List Int} (hR : rightQB paper q kept = true) (h : proveQB paper q (kept ++ [more]) l = true) : proveQB paper q kept l = true := by
  unfold proveQB at h ⊢
  rw [right_ok, Bool.and_eq_true] at hR
  simp only [Bool.and_eq_true] at h ⊢
  exact ⟨hR.1, h.2.1, h.2.2.1, proves_kept _ _ _ h.2.2.2⟩
end Go.Proofs.Ythpheknchikodaa.P

/- The arguments of the laws over quotations, opened: lists of texts, a list of numbers. Conditions: none. -/
namespace Go.Proofs.Ythpheknchikodaa.P
open Go.RowKit Go.Joins Go.ChangeShapes Go.WideShapes Go.Deep Go.Proofs.YthpheknchikodaaW.PrintWords Go.Proofs.YthpheknchikodaaW.PrintLast
set_option linter.unusedVariables false
set_option linter.unusedSimpArgs false
/-- A list of texts that comes in. -/
def SIn (w : World) (A : Option Addr) (c : Nat) (l : List ByteArray) : Prop := Kd.C Kd.string w A l.length l ∧ l.length ≤ c ∧ l.length ≤ 8796093022206
def IIn (w : World) (A : Option Addr) (c : Nat) (l : List Int) : Prop := Kd.C (Kd.int .i64) w A l.length l ∧ l.length ≤ c
section
variable {H : Type} {enc : TypeId × Value → H} {w : World} {base : Nat} {spare : Nat → Bool} {held : Bool}
theorem elem_string {n : Nat} {cs : List Value} {x : DataW H × List MemPlace} (h : DataW.trod enc Try.prog w base spare held n 9 cs = some x) : ∃ s : ByteArray, Kd.string.K w s cs ∧ cs.length = 1 := by
  obtain ⟨z, e, _⟩ := DataW.trod_string Try.underlying9 h
  exact ⟨z, e, by rw [e]; rfl⟩
theorem elem_int {n : Nat} {cs : List Value} {x : DataW H × List MemPlace} (h : DataW.trod enc Try.prog w base spare held n 3 cs = some x) : ∃ s : Int, (Kd.int .i64).K w s cs ∧ cs.length = 1 := by
  obtain ⟨z, e, _⟩ := DataW.trod_int Try.underlying3 h
  exact ⟨z, e, by rw [e]; rfl⟩
theorem bytes9 : Try.prog.bytesOf 9 = 16 := by kernel_rfl
set_option maxRecDepth 100000 in
theorem open_strs_ {ts : List TypeId} {ds : List (DataW H)} (hsz : (DataW.weightsEach Try.prog ts ds).all (· ≤ reachBytes) = true) {j : Nat} {v : Value} {d : DataW H} {p : List MemPlace} {r : Reach} {b0 : Nat} (ht : ts[j]? = some 73) (hd : ds[j]? = some d) (hv : Value.okWide Try.prog w r b0 73 v) (h : DataW.Trod enc Try.prog w 0 (fun _ => true) held 73 v d p) :
    ∃ (A : Option Addr) (c : Nat) (l : List ByteArray), v = .slice A l.length c ∧ SIn w A c l := by
  obtain ⟨fuel, hf⟩ := h
  obtain ⟨a, n, c, rfl⟩ := okWide_slice Try.underlying73 hv
  have hf' := hf
  obtain ⟨A, c', l, e, hl, hC⟩ := slice_C ByteArray.empty Kd.string 9 73 1 rfl Try.underlying73 cells9 (fun h => elem_string h) hf
  refine ⟨A, c', l, e, hC, hl, ?_⟩
  injection e with e1 e2 e3
  subst e1 e2 e3
  rcases open_strings Try.underlying73 Try.underlying9 cells9 hf' with ⟨hcs, _⟩ | ⟨x, n', c2, zs, hcs, _, hl2, _, hz, hx, _, _⟩
  · simp [Value.cells] at hcs
    omega
  · simp [Value.cells] at hcs
    obtain ⟨rfl, e2, rfl⟩ := hcs
    obtain ⟨hx, _⟩ := Prod.mk.inj hx
    subst hx
    have z := sized_slice hsz ht hd Try.underlying73
    rw [bytes9] at z
    have h1 : (strs (H := H) (zs.take n')).length + (strs (H := H) (zs.drop n')).length = zs.length := by
      simp [strs]
      omega
    rw [h1] at z
    have h2 : n' ≤ zs.length := by
      rw [hz]
      split
      · exact hl2
      · exact Nat.le_refl _
    have h3 : reachBytes = 140737488351232 := rfl
    omega
set_option maxRecDepth 100000 in
theorem open_ints_ {v : Value} {d : DataW H} {p : List MemPlace} {r : Reach} {b0 : Nat} (hv : Value.okWide Try.prog w r b0 28 v) (h : DataW.Trod enc Try.prog w 0 (fun _ => true) held 28 v d p) :
    ∃ (A : Option Addr) (c : Nat) (l : List Int), v = .slice A l.length c ∧ IIn w A c l := by
  obtain ⟨fuel, hf⟩ := h
  obtain ⟨a, n, c, rfl⟩ := okWide_slice Try.underlying28 hv
  obtain ⟨A, c', l, e, hl, hC⟩ := slice_C 0 (Kd.int .i64) 3 28 1 rfl Try.underlying28 cells3 (fun h => elem_int h) hf
  exact ⟨A, c', l, e, hC, hl⟩
end
end Go.Proofs.Ythpheknchikodaa.P

/- The walk of ready: may a statement play a roll? Conditions: the roll is readable. -/
namespace Go.Proofs.Ythpheknchikodaa.P
open Go.RowKit Go.Proofs.YthpheknchikodaaW.PrintWords Go.Proofs.YthpheknchikodaaW.PrintLast
set_option linter.unusedVariables false
set_option linter.unusedSimpArgs false
def readyB (p o : Int) (ts : List S54) (ns : List S88) : Bool := thinB ts ns && decide (faultOf p o ts ns = 0)
set_option maxHeartbeats 1000000 in
set_option maxRecDepth 100000 in
theorem ready_calls (p o : Int) (A2 : Option Addr) (c2 : Nat) (ts : List S54) (A3 : Option Addr) (c3 : Nat) (ns : List S88) (w : World) (hI : RIn w A2 c2 ts A3 c3 ns) :
    Calls Try.prog 26 #[.agg #[.int .i64 p, .int .i64 o, .slice A2 ts.length c2, .slice A3 ns.length c3]] w fun e w' => e = .returned (.bool (readyB p o ts ns)) ∧ Below w.heap.size w w' := by
  have hu25 := Try.underlying25
  have HB0 := Aside0.mk (below_alloc (Below.refl w.heap.size w) (.cells #[.int .i64 p, .int .i64 o, .slice A2 ts.length c2, .slice A3 ns.length c3] 25))
  have HI0 := Aside0.mk (hI.below HB0.out)
  have BK0 := Aside0.mk (blk_new w (.cells #[.int .i64 p, .int .i64 o, .slice A2 ts.length c2, .slice A3 ns.length c3] 25))
  obtain ⟨x0, x1, x2, x3⟩ := roll_cells BK0.out
  clear hI
  obtain ⟨R, hR⟩ : ∃ R, readyB p o ts ns = R := ⟨_, rfl⟩
  rw [hR]
  unfold readyB at hR
  cases ht : thinB ts ns
  · rw [ht, Bool.false_and] at hR
    subst hR
    go_enter Try.func26, Try.ntmps26
    go_wp2_with fail
    refine (Thin_calls p o A2 c2 ts A3 c3 ns _ HI0.out).mono ?_
    rintro e w1 ⟨rfl, hb⟩
    rw [ht]
    have HB1 := Aside0.mk (below_then HB0.out HB0.out.size hb)
    clear hb x0 x1 x2 x3
    go_wp2
    go_ret
    exact ⟨rfl, HB1.out⟩
  rw [ht, Bool.true_and] at hR
  obtain ⟨hts, hns, hsz⟩ := thin_facts ht
  have HTS := Aside0.mk hts
  have HNS := Aside0.mk hns
  have HSZ := Aside0.mk hsz
  clear hts hns hsz
  obtain ⟨f, hf⟩ : ∃ f, faultOf p o ts ns = f := ⟨_, rfl⟩
  rw [hf] at hR
  have hR2 : (f == 0) = R := by rw [← hR, Bool.eq_iff_iff]; simp
  have HF := Aside0.mk hf
  clear hf hR
  go_enter Try.func26, Try.ntmps26
  go_wp2_with fail
  refine (Thin_calls p o A2 c2 ts A3 c3 ns _ HI0.out).mono ?_
  rintro e w1 ⟨rfl, hb⟩
  rw [ht]
  have HB1 := Aside0.mk (below_then HB0.out HB0.out.size hb)
  have HI1 := Aside0.mk (HI0.out.below hb)
  have BK1 := Aside0.mk ((hb.block _ (blk_lt BK0.out)).trans BK0.out)
  clear hb x0 x1 x2 x3
  obtain ⟨x0, x1, x2, x3⟩ := roll_cells BK1.out
  go_wp2_with fail
  refine (Fault_calls p o A2 c2 ts A3 c3 ns _ HI1.out.1 HI1.out.2.2.1 HTS.out HNS.out HSZ.out).mono ?_
  rintro e w2 ⟨rfl, hb⟩
  rw [HF.out]
  have HB2 := Aside0.mk (below_then HB1.out HB1.out.size hb)
  clear hb x0 x1 x2 x3
  go_wp2
  go_ret
  exact ⟨rfl, HB2.out⟩
theorem wf_u8 {a : Int} (h : (Lit.int .u8 a).wf = true) : 0 ≤ a ∧ a ≤ 255 := by
  have h' := h
  simp only [Lit.wf, Bool.and_eq_true, decide_eq_true_eq] at h'
  exact ⟨h'.1, h'.2⟩
theorem wf_u32 {a : Int} (h : (Lit.int .u32 a).wf = true) : 0 ≤ a ∧ a ≤ 4294967295 := by
  have h' := h
  simp only [Lit.wf, Bool.and_eq_true, decide_eq_true_eq] at h'
  exact ⟨h'.1, h'.2⟩
theorem wf_u16 {a : Int} (h : (Lit.int .u16 a).wf = true) : 0 ≤ a ∧ a ≤ 65535 := by
  have h' := h
  simp only [Lit.wf, Bool.and_eq_true, decide_eq_true_eq] at h'
  exact ⟨h'.1, h'.2⟩
end Go.Proofs.Ythpheknchikodaa.P
