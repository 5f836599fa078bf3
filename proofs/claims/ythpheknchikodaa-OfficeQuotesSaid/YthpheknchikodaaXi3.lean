/- Contracts of functions that the laws reach, part Xi3. Conditions: each theorem names its own. -/
import Derived.Test.YthpheknchikodaaXi2
import Derived.Test.YthpheknchikodaaXb13
/- The walk of the law OfficeQuotes: it answers true. Conditions: none beyond the lists' being readable. -/
namespace Go.Proofs.Ythpheknchikodaa.P
open Go.RowKit Go.Proofs.YthpheknchikodaaW.PrintWords Go.Proofs.YthpheknchikodaaW.PrintLast
set_option linter.unusedVariables false
set_option linter.unusedSimpArgs false

set_option maxHeartbeats 8000000 in
set_option maxRecDepth 100000 in
theorem OfficeQuotes_calls (A0 : Option Addr) (c0 : Nat) (paper : List ByteArray) (A1 : Option Addr) (c1 : Nat) (quotation : List ByteArray) (A2 : Option Addr) (c2 : Nat) (kept : List ByteArray) (A3 : Option Addr) (c3 : Nat) (places : List Int) (w : World)
    (h0 : Kd.C Kd.string w A0 paper.length paper) (h1 : Kd.C Kd.string w A1 quotation.length quotation) (h2 : Kd.C Kd.string w A2 kept.length kept) (h3 : Kd.C (Kd.int .i64) w A3 places.length places) (hl : paper.length ≤ 8796093022208 ∧ quotation.length ≤ 8796093022208 ∧ kept.length ≤ 8796093022208) (hc1 : quotation.length ≤ c1) :
    Calls Try.prog 10 #[.slice A0 paper.length c0, .slice A1 quotation.length c1, .slice A2 kept.length c2, .slice A3 places.length c3] w fun e w' => e = .returned (.bool true) ∧ Below w.heap.size w w' := by
  have HC1 := Aside0.mk hc1
  clear hc1
  have HR0 := Aside0.mk h0
  have HR1 := Aside0.mk h1
  have HR2 := Aside0.mk h2
  have HR3 := Aside0.mk h3
  have HB0 := Aside0.mk (Below.refl w.heap.size w)
  have HL0 := Aside0.mk hl.1
  have HL1 := Aside0.mk hl.2.1
  have HL2 := Aside0.mk hl.2.2
  clear h0 h1 h2 h3 hl
  go_enter Try.func10, Try.ntmps10
  go_wp2_with fail
  cases sh0 : shortB paper
  case false =>
    refine (short_calls A0 c0 paper _ (Kd.C_below HR0.out HB0.out) HL0.out).mono ?_
    rintro e w_ ⟨rfl, rfl⟩
    rw [sh0]
    go_wp2_with fail
    refine (awake_calls _).mono ?_
    rintro e wz ⟨rfl, hb⟩
    have HBz := Aside0.mk (below_then HB0.out HB0.out.size hb)
    clear hb
    go_wp2
    go_ret
    exact ⟨rfl, HBz.out⟩
  have SF0 := Aside0.mk (short_facts sh0)
  refine (short_calls A0 c0 paper _ (Kd.C_below HR0.out HB0.out) HL0.out).mono ?_
  rintro e w_ ⟨rfl, rfl⟩
  rw [sh0]
  clear sh0
  go_wp2_with fail
  cases sh1 : shortB quotation
  case false =>
    refine (short_calls A1 c1 quotation _ (Kd.C_below HR1.out HB0.out) HL1.out).mono ?_
    rintro e w_ ⟨rfl, rfl⟩
    rw [sh1]
    go_wp2_with fail
    refine (awake_calls _).mono ?_
    rintro e wz ⟨rfl, hb⟩
    have HBz := Aside0.mk (below_then HB0.out HB0.out.size hb)
    clear hb
    go_wp2
    go_ret
    exact ⟨rfl, HBz.out⟩
  have SF1 := Aside0.mk (short_facts sh1)
  refine (short_calls A1 c1 quotation _ (Kd.C_below HR1.out HB0.out) HL1.out).mono ?_
  rintro e w_ ⟨rfl, rfl⟩
  rw [sh1]
  clear sh1
  go_wp2_with fail
  cases sh2 : shortB kept
  case false =>
    refine (short_calls A2 c2 kept _ (Kd.C_below HR2.out HB0.out) HL2.out).mono ?_
    rintro e w_ ⟨rfl, rfl⟩
    rw [sh2]
    go_wp2_with fail
    refine (awake_calls _).mono ?_
    rintro e wz ⟨rfl, hb⟩
    have HBz := Aside0.mk (below_then HB0.out HB0.out.size hb)
    clear hb
    go_wp2
    go_ret
    exact ⟨rfl, HBz.out⟩
  have SF2 := Aside0.mk (short_facts sh2)
  refine (short_calls A2 c2 kept _ (Kd.C_below HR2.out HB0.out) HL2.out).mono ?_
  rintro e w_ ⟨rfl, rfl⟩
  rw [sh2]
  clear sh2
  by_cases hpl : places.length ≤ 90
  case neg =>
    have e1 : decide ((90 : Int) < (places.length : Int)) = true := decide_eq_true (by omega)
    clear hpl
    go_wp2_with fail
    refine (awake_calls _).mono ?_
    rintro e wz ⟨rfl, hb⟩
    have HBz := Aside0.mk (below_then HB0.out HB0.out.size hb)
    clear hb
    go_wp2
    go_ret
    exact ⟨rfl, HBz.out⟩
  have e1 : decide ((90 : Int) < (places.length : Int)) = false := decide_eq_false (by omega)
  have HPL := Aside0.mk hpl
  clear hpl
  go_wp2_with fail
  clear e1
  obtain ⟨r, hr⟩ : ∃ r, qSpec paper quotation kept = r := ⟨_, rfl⟩
  have HQ := Aside0.mk hr
  clear hr
  refine (list_calls A0 c0 paper _ (Kd.C_below HR0.out HB0.out) (Nat.le_trans SF0.out.1 (by decide))).mono ?_
  rintro e w1 ⟨Bx0, dx0, rfl, hd, hx, hb⟩
  have HXx0 := Aside0.mk hx
  have HDx0 := Aside0.mk hd
  clear hx hd
  have HB1 := Aside0.mk (below_then HB0.out HB0.out.size hb)
  clear hb
  go_wp2_with fail
  refine (list_calls A1 c1 quotation _ (Kd.C_below HR1.out HB1.out) (Nat.le_trans SF1.out.1 (by decide))).mono ?_
  rintro e w2 ⟨Bx1, dx1, rfl, hd, hx, hb⟩
  have HXx1 := Aside0.mk hx
  have HDx1 := Aside0.mk hd
  clear hx hd
  have n_ := Aside0.mk (Kd.C_below HXx0.out hb)
  clear HXx0
  have HXx0 := n_
  clear n_
  have HB2 := Aside0.mk (below_then HB1.out HB1.out.size hb)
  clear hb
  go_wp2_with fail
  refine (list_calls A2 c2 kept _ (Kd.C_below HR2.out HB2.out) (Nat.le_trans SF2.out.1 (by decide))).mono ?_
  rintro e w3 ⟨Bx2, dx2, rfl, hd, hx, hb⟩
  have HXx2 := Aside0.mk hx
  have HDx2 := Aside0.mk hd
  clear hx hd
  have n_ := Aside0.mk (Kd.C_below HXx0.out hb)
  clear HXx0
  have HXx0 := n_
  clear n_
  have n_ := Aside0.mk (Kd.C_below HXx1.out hb)
  clear HXx1
  have HXx1 := n_
  clear n_
  have HB3 := Aside0.mk (below_then HB2.out HB2.out.size hb)
  clear hb
  go_wp2_with fail
  refine (pQuote_calls Bx0 dx0 paper Bx1 dx1 quotation Bx2 dx2 kept r HQ.out _ HXx0.out HDx0.out HXx1.out HDx1.out HXx2.out HDx2.out).mono ?_
  rintro e w4 ⟨AL, cL, rfl, hd, hx, hb⟩
  have HXL := Aside0.mk hx
  have HDL := Aside0.mk hd
  clear hx hd HXx0 HXx1 HXx2
  have HB4 := Aside0.mk (below_then HB3.out HB3.out.size hb)
  clear hb
  go_wp2_with fail
  refine (list_calls A0 c0 paper _ (Kd.C_below HR0.out HB4.out) (Nat.le_trans SF0.out.1 (by decide))).mono ?_
  rintro e w5 ⟨By0, dy0, rfl, hd, hx, hb⟩
  have HXy0 := Aside0.mk hx
  have HDy0 := Aside0.mk hd
  clear hx hd
  have n_ := Aside0.mk (Kd.C_below HXL.out hb)
  clear HXL
  have HXL := n_
  clear n_
  have HB5 := Aside0.mk (below_then HB4.out HB4.out.size hb)
  clear hb
  go_wp2_with fail
  refine (list_calls A1 c1 quotation _ (Kd.C_below HR1.out HB5.out) (Nat.le_trans SF1.out.1 (by decide))).mono ?_
  rintro e w6 ⟨By1, dy1, rfl, hd, hx, hb⟩
  have HXy1 := Aside0.mk hx
  have HDy1 := Aside0.mk hd
  clear hx hd
  have n_ := Aside0.mk (Kd.C_below HXy0.out hb)
  clear HXy0
  have HXy0 := n_
  clear n_
  have n_ := Aside0.mk (Kd.C_below HXL.out hb)
  clear HXL
  have HXL := n_
  clear n_
  have HB6 := Aside0.mk (below_then HB5.out HB5.out.size hb)
  clear hb
  go_wp2_with fail
  refine (list_calls A2 c2 kept _ (Kd.C_below HR2.out HB6.out) (Nat.le_trans SF2.out.1 (by decide))).mono ?_
  rintro e w7 ⟨By2, dy2, rfl, hd, hx, hb⟩
  have HXy2 := Aside0.mk hx
  have HDy2 := Aside0.mk hd
  clear hx hd
  have n_ := Aside0.mk (Kd.C_below HXy0.out hb)
  clear HXy0
  have HXy0 := n_
  clear n_
  have n_ := Aside0.mk (Kd.C_below HXy1.out hb)
  clear HXy1
  have HXy1 := n_
  clear n_
  have n_ := Aside0.mk (Kd.C_below HXL.out hb)
  clear HXL
  have HXL := n_
  clear n_
  have HB7 := Aside0.mk (below_then HB6.out HB6.out.size hb)
  clear hb
  go_wp2_with ((with_reducible refine gate_builtin (b := .append) (xs := #[.const (.slice none 0 0), .tmp 50]) rfl ?_); at_builtin; refine Kd.R_append_rows (Kd.int .i64) (w0 := w7) w7.heap.size rfl (.const (.slice none 0 0)) (.tmp 50) 28 3 (.int .i64 0) 8 rfl Try.underlying28 info3 rfl (by decide) (by omega) (.slice none 0 0) [] places _ _ _ (fun _ => True) (fun _ => False) rfl rfl (Kd.R_nil _ _ _ _ _) (Kd.C_below HR3.out HB7.out) (fun _ _ h => h) (fun _ h => h.elim) (fun _ _ => trivial) (Below.refl _ _) (Nat.le_refl _) (by have := HPL.out; simp; omega) ?_; intro v6 w8 ho hb hg hat; rw [List.nil_append] at ho; obtain ⟨APP, cPP, e6⟩ := Kd.R_slice ho; subst e6; have HPP := Aside0.mk (Kd.R_reads' ho).2.2; clear ho hg hat)
  have n_ := Aside0.mk (Kd.C_below HXy0.out hb)
  clear HXy0
  have HXy0 := n_
  clear n_
  have n_ := Aside0.mk (Kd.C_below HXy1.out hb)
  clear HXy1
  have HXy1 := n_
  clear n_
  have n_ := Aside0.mk (Kd.C_below HXy2.out hb)
  clear HXy2
  have HXy2 := n_
  clear n_
  have n_ := Aside0.mk (Kd.C_below HXL.out hb)
  clear HXL
  have HXL := n_
  clear n_
  have HB8 := Aside0.mk (below_then HB7.out HB7.out.size hb)
  clear hb
  obtain ⟨b, hb⟩ : ∃ b, rightQB paper quotation kept = b := ⟨_, rfl⟩
  obtain ⟨f, hf⟩ : ∃ f, fitsB paper quotation kept places = f := ⟨_, rfl⟩
  have HPV := Aside0.mk (show proveQB paper quotation kept places = (b && f) by rw [prove_fits, hb, hf])
  have HBB := Aside0.mk hb
  have HFF := Aside0.mk hf
  clear hb hf
  refine (ProveQuote_calls By0 dy0 paper By1 dy1 quotation By2 dy2 kept APP cPP places _ HXy0.out HDy0.out HXy1.out HXy2.out HPP.out (by have := HPL.out; omega)).mono ?_
  rintro e w9 ⟨rfl, hb⟩
  rw [HPV.out]
  clear HXy0 HXy1 HXy2 HPP
  have n_ := Aside0.mk (Kd.C_below HXL.out hb)
  clear HXL
  have HXL := n_
  clear n_
  have HB9 := Aside0.mk (below_then HB8.out HB8.out.size hb)
  clear hb
  go_wp2_with fail
  refine (RightQuote_calls A0 c0 paper A1 c1 quotation A2 c2 kept _ (Kd.C_below HR0.out HB9.out) (Kd.C_below HR1.out HB9.out) (Kd.C_below HR2.out HB9.out) SF0.out.1 SF1.out.1 SF2.out.1 SF0.out.2.2 SF1.out.2.2 SF2.out.2.2).mono ?_
  rintro e w10 ⟨rfl, hb⟩
  rw [HBB.out]
  have n_ := Aside0.mk (Kd.C_below HXL.out hb)
  clear HXL
  have HXL := n_
  clear n_
  have HB10 := Aside0.mk (below_then HB9.out HB9.out.size hb)
  clear hb
  have hq := HQ.out
  unfold qSpec at hq
  rw [HBB.out] at hq
  cases b with
  | false =>
    rw [if_neg (by simp)] at hq
    subst hq
    simp only [List.length_nil, Bool.false_and]
    clear HQ HPV
    go_wp2_with fail
    refine (awake_calls _).mono ?_
    rintro e wz ⟨rfl, hb⟩
    have HBz := Aside0.mk (below_then HB10.out HB10.out.size hb)
    clear hb
    go_wp2
    go_ret
    exact ⟨rfl, HBz.out⟩
  | true =>
    rw [if_pos rfl] at hq
    have HQQ := Aside0.mk hq
    rw [Bool.true_and]
    clear hq HPV
    go_wp2_with fail
    refine (Fits_calls A0 c0 paper A1 c1 quotation A2 c2 kept A3 c3 places _ (Kd.C_below HR0.out HB10.out) (Kd.C_below HR1.out HB10.out) (Kd.C_below HR2.out HB10.out) (Kd.C_below HR3.out HB10.out) ⟨SF0.out.1, SF1.out.1, SF2.out.1, by have := HPL.out; omega⟩ SF1.out.2.2).mono ?_
    rintro e w11 ⟨rfl, hb⟩
    rw [HFF.out]
    have n_ := Aside0.mk (Kd.C_below HXL.out hb)
    clear HXL
    have HXL := n_
    clear n_
    have HB11 := Aside0.mk (below_then HB10.out HB10.out.size hb)
    clear hb
    have hff : (f != f) = false := bne_self_eq_false _
    obtain ⟨F, hF⟩ : ∃ F, findP paper kept (piecesOf quotation) (piecesOf quotation).length (-1) = F := ⟨_, rfl⟩
    have hq := HQQ.out
    rw [hF] at hq
    have HF := Aside0.mk hF
    clear hF HQQ HQ
    by_cases hp8 : paper.length ≤ 8
    case neg =>
      have e8 : decide ((8 : Int) < (paper.length : Int)) = true := decide_eq_true (by omega)
      clear hp8
      cases F with
      | none =>
        obtain rfl : r = ([], 7) := hq.symm
        simp only [List.length_nil] at HXL ⊢
        go_wp2_with fail
        refine (awake_calls _).mono ?_
        rintro e wz ⟨rfl, hb⟩
        have HBz := Aside0.mk (below_then HB11.out HB11.out.size hb)
        clear hb
        go_wp2
        go_ret
        exact ⟨rfl, HBz.out⟩
      | some l =>
        obtain rfl : r = (l, 0) := hq.symm
        simp only at HXL ⊢
        obtain ⟨hfl, -, hfn, -⟩ := found_fits HBB.out HF.out
        have HFL := Aside0.mk hfl
        have HFN := Aside0.mk hfn
        clear hq hfl hfn
        go_wp2_with fail
        refine (Fits_calls A0 c0 paper A1 c1 quotation A2 c2 kept AL cL l _ (Kd.C_below HR0.out HB11.out) (Kd.C_below HR1.out HB11.out) (Kd.C_below HR2.out HB11.out) HXL.out ⟨SF0.out.1, SF1.out.1, SF2.out.1, by have := HFN.out; omega⟩ SF1.out.2.2).mono ?_
        rintro e w12 ⟨rfl, hb⟩
        rw [HFL.out]
        have HB12 := Aside0.mk (below_then HB11.out HB11.out.size hb)
        clear hb
        go_wp2_with fail
        refine (awake_calls _).mono ?_
        rintro e wz ⟨rfl, hb⟩
        have HBz := Aside0.mk (below_then HB12.out HB12.out.size hb)
        clear hb
        go_wp2
        go_ret
        exact ⟨rfl, HBz.out⟩
    have e8 : decide ((8 : Int) < (paper.length : Int)) = false := decide_eq_false (by omega)
    clear hp8
    by_cases hq6 : quotation.length ≤ 6
    case neg =>
      have e6 : decide ((6 : Int) < (quotation.length : Int)) = true := decide_eq_true (by omega)
      clear hq6
      cases F with
      | none =>
        obtain rfl : r = ([], 7) := hq.symm
        simp only [List.length_nil] at HXL ⊢
        go_wp2_with fail
        refine (awake_calls _).mono ?_
        rintro e wz ⟨rfl, hb⟩
        have HBz := Aside0.mk (below_then HB11.out HB11.out.size hb)
        clear hb
        go_wp2
        go_ret
        exact ⟨rfl, HBz.out⟩
      | some l =>
        obtain rfl : r = (l, 0) := hq.symm
        simp only at HXL ⊢
        obtain ⟨hfl, -, hfn, -⟩ := found_fits HBB.out HF.out
        have HFL := Aside0.mk hfl
        have HFN := Aside0.mk hfn
        clear hq hfl hfn
        go_wp2_with fail
        refine (Fits_calls A0 c0 paper A1 c1 quotation A2 c2 kept AL cL l _ (Kd.C_below HR0.out HB11.out) (Kd.C_below HR1.out HB11.out) (Kd.C_below HR2.out HB11.out) HXL.out ⟨SF0.out.1, SF1.out.1, SF2.out.1, by have := HFN.out; omega⟩ SF1.out.2.2).mono ?_
        rintro e w12 ⟨rfl, hb⟩
        rw [HFL.out]
        have HB12 := Aside0.mk (below_then HB11.out HB11.out.size hb)
        clear hb
        go_wp2_with fail
        refine (awake_calls _).mono ?_
        rintro e wz ⟨rfl, hb⟩
        have HBz := Aside0.mk (below_then HB12.out HB12.out.size hb)
        clear hb
        go_wp2
        go_ret
        exact ⟨rfl, HBz.out⟩
    have e6 : decide ((6 : Int) < (quotation.length : Int)) = false := decide_eq_false (by omega)
    clear hq6
    have hrq := rQ_all paper quotation kept
    rw [HF.out] at hrq
    have HRQ := Aside0.mk hrq
    clear hrq
    go_wp2_with fail
    refine ((rQuote_calls A0 c0 paper A1 c1 quotation A2 c2 kept ⟨SF0.out.1, SF1.out.1, SF2.out.1⟩ HC1.out SF1.out.2.2 (piecesOf quotation).length) [] none 0 _ (by have := pieces_len quotation; simp; omega) (Kd.C_below HR0.out HB11.out) (Kd.C_below HR1.out HB11.out) (Kd.C_below HR2.out HB11.out) (C_none _)).mono ?_
    rintro e w12 ⟨AR, cR, rfl, hd, hx, hb⟩
    rw [HRQ.out] at hd hx ⊢
    have HXR := Aside0.mk hx
    have HDR := Aside0.mk hd
    clear hx hd
    have n_ := Aside0.mk (Kd.C_below HXL.out hb)
    clear HXL
    have HXL := n_
    clear n_
    have HB12 := Aside0.mk (below_then HB11.out HB11.out.size hb)
    clear hb
    cases F with
    | none =>
      obtain rfl : r = ([], 7) := hq.symm
      simp only [List.length_nil, Option.getD_none, Option.isSome_none] at HXL ⊢
      go_wp2_with fail
      refine (awake_calls _).mono ?_
      rintro e wz ⟨rfl, hb⟩
      have HBz := Aside0.mk (below_then HB12.out HB12.out.size hb)
      clear hb
      go_wp2
      go_ret
      exact ⟨rfl, HBz.out⟩
    | some l =>
      obtain rfl : r = (l, 0) := hq.symm
      simp only [Option.getD_some, Option.isSome_some] at HXL HXR HDR HDL ⊢
      have HFN := Aside0.mk (found_fits HBB.out HF.out).2.2.1
      clear hq
      go_wp2_with fail
      refine (palantypelaw05_ints.calls (l.length + 1) AL cL l AR cR l true _ HXL.out HDL.out HXR.out HDR.out (ints_same l (by have := HFN.out; omega))).mono ?_
      rintro e wi ⟨rfl, m9, rfl⟩
      have HBi := Aside0.mk (pw_below_drewN HB12.out m9)
      generalize w12.drewN m9 = wi at HBi ⊢
      go_wp2_with fail
      refine (awake_calls _).mono ?_
      rintro e wz ⟨rfl, hb⟩
      have HBz := Aside0.mk (below_then HBi.out HBi.out.size hb)
      clear hb
      go_wp2
      go_ret
      exact ⟨rfl, HBz.out⟩
theorem OfficeQuotes_row (A0 : Option Addr) (c0 : Nat) (paper : List ByteArray) (A1 : Option Addr) (c1 : Nat) (quotation : List ByteArray) (A2 : Option Addr) (c2 : Nat) (kept : List ByteArray) (A3 : Option Addr) (c3 : Nat) (places : List Int) (w : World) (H0 : SIn w A0 c0 paper) (H1 : SIn w A1 c1 quotation) (H2 : SIn w A2 c2 kept) (H3 : IIn w A3 c3 places) :
    Calls Try.prog 10 #[.slice A0 paper.length c0, .slice A1 quotation.length c1, .slice A2 kept.length c2, .slice A3 places.length c3] w fun e w' => e = .returned (.bool true) ∧ Below w.heap.size w w' :=
  OfficeQuotes_calls A0 c0 paper A1 c1 quotation A2 c2 kept A3 c3 places w H0.1 H1.1 H2.1 H3.1 ⟨Nat.le_trans H0.2.2 (by decide), Nat.le_trans H1.2.2 (by decide), Nat.le_trans H2.2.2 (by decide)⟩ H1.2.1
end Go.Proofs.Ythpheknchikodaa.P
