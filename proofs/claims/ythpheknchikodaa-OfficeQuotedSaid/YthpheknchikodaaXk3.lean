/- Contracts of functions that the laws reach, part Xk3. Conditions: each theorem names its own. -/
import Derived.Test.YthpheknchikodaaXk2
import Derived.Test.YthpheknchikodaaXb13
/- The walk of the law OfficeQuoted: it answers true. Conditions: none beyond the lists' being readable. -/
namespace Go.Proofs.Ythpheknchikodaa.P
open Go.RowKit Go.Proofs.YthpheknchikodaaW.PrintWords Go.Proofs.YthpheknchikodaaW.PrintLast
set_option linter.unusedVariables false
set_option linter.unusedSimpArgs false

set_option maxHeartbeats 8000000 in
set_option maxRecDepth 100000 in
theorem OfficeQuoted_calls (A0 : Option Addr) (c0 : Nat) (paper : List ByteArray) (A1 : Option Addr) (c1 : Nat) (quotation : List ByteArray) (A2 : Option Addr) (c2 : Nat) (kept : List ByteArray) (A3 : Option Addr) (c3 : Nat) (places : List Int) (from_ many : Int) (w : World)
    (h0 : Kd.C Kd.string w A0 paper.length paper) (h1 : Kd.C Kd.string w A1 quotation.length quotation) (h2 : Kd.C Kd.string w A2 kept.length kept) (h3 : Kd.C (Kd.int .i64) w A3 places.length places) (hl : paper.length ≤ 8796093022208 ∧ quotation.length ≤ 8796093022208 ∧ kept.length ≤ 8796093022208) (hc0 : paper.length ≤ c0) (hfr : 0 ≤ from_ ∧ from_ ≤ 255) (hmn : 0 ≤ many ∧ many ≤ 255) :
    Calls Try.prog 11 #[.slice A0 paper.length c0, .slice A1 quotation.length c1, .slice A2 kept.length c2, .slice A3 places.length c3, .int .u8 from_, .int .u8 many] w fun e w' => e = .returned (.bool true) ∧ Below w.heap.size w w' := by
  have HR0 := Aside0.mk h0
  have HR1 := Aside0.mk h1
  have HR2 := Aside0.mk h2
  have HR3 := Aside0.mk h3
  have HB0 := Aside0.mk (Below.refl w.heap.size w)
  have HL0 := Aside0.mk hl.1
  have HL1 := Aside0.mk hl.2.1
  have HL2 := Aside0.mk hl.2.2
  have HC0 := Aside0.mk hc0
  have HFR := Aside0.mk hfr
  have HMN := Aside0.mk hmn
  clear h0 h1 h2 h3 hl hc0 hfr hmn
  go_enter Try.func11, Try.ntmps11
  go_wp2_with fail
  cases sh0 : shortB paper
  case false =>
    refine (short_calls A0 c0 paper _ (Kd.C_below HR0.out HB0.out) HL0.out).mono ?_
    rintro e w_ ⟨rfl, rfl⟩
    rw [sh0]
    go_wp2_with fail
    refine (awake_calls _).mono ?_
    rintro e wz ⟨rfl, hb⟩
    have HBz := Aside0.mk (below_then HB0.out HB0.out.size hb)
    clear hb
    go_wp2
    go_ret
    exact ⟨rfl, HBz.out⟩
  have SF0 := Aside0.mk (short_facts sh0)
  refine (short_calls A0 c0 paper _ (Kd.C_below HR0.out HB0.out) HL0.out).mono ?_
  rintro e w_ ⟨rfl, rfl⟩
  rw [sh0]
  clear sh0
  go_wp2_with fail
  cases sh1 : shortB quotation
  case false =>
    refine (short_calls A1 c1 quotation _ (Kd.C_below HR1.out HB0.out) HL1.out).mono ?_
    rintro e w_ ⟨rfl, rfl⟩
    rw [sh1]
    go_wp2_with fail
    refine (awake_calls _).mono ?_
    rintro e wz ⟨rfl, hb⟩
    have HBz := Aside0.mk (below_then HB0.out HB0.out.size hb)
    clear hb
    go_wp2
    go_ret
    exact ⟨rfl, HBz.out⟩
  have SF1 := Aside0.mk (short_facts sh1)
  refine (short_calls A1 c1 quotation _ (Kd.C_below HR1.out HB0.out) HL1.out).mono ?_
  rintro e w_ ⟨rfl, rfl⟩
  rw [sh1]
  clear sh1
  go_wp2_with fail
  cases sh2 : shortB kept
  case false =>
    refine (short_calls A2 c2 kept _ (Kd.C_below HR2.out HB0.out) HL2.out).mono ?_
    rintro e w_ ⟨rfl, rfl⟩
    rw [sh2]
    go_wp2_with fail
    refine (awake_calls _).mono ?_
    rintro e wz ⟨rfl, hb⟩
    have HBz := Aside0.mk (below_then HB0.out HB0.out.size hb)
    clear hb
    go_wp2
    go_ret
    exact ⟨rfl, HBz.out⟩
  have SF2 := Aside0.mk (short_facts sh2)
  refine (short_calls A2 c2 kept _ (Kd.C_below HR2.out HB0.out) HL2.out).mono ?_
  rintro e w_ ⟨rfl, rfl⟩
  rw [sh2]
  clear sh2
  by_cases hpl : places.length ≤ 90
  case neg =>
    have e1 : decide ((90 : Int) < (places.length : Int)) = true := decide_eq_true (by omega)
    clear hpl
    go_wp2_with fail
    refine (awake_calls _).mono ?_
    rintro e wz ⟨rfl, hb⟩
    have HBz := Aside0.mk (below_then HB0.out HB0.out.size hb)
    clear hb
    go_wp2
    go_ret
    exact ⟨rfl, HBz.out⟩
  have e1 : decide ((90 : Int) < (places.length : Int)) = false := decide_eq_false (by omega)
  have HPL := Aside0.mk hpl
  clear hpl
  go_wp2_with fail
  clear e1
  obtain ⟨b, hb⟩ : ∃ b, rightQB paper quotation kept = b := ⟨_, rfl⟩
  have HBB := Aside0.mk hb
  clear hb
  refine (RightQuote_calls A0 c0 paper A1 c1 quotation A2 c2 kept _ (Kd.C_below HR0.out HB0.out) (Kd.C_below HR1.out HB0.out) (Kd.C_below HR2.out HB0.out) SF0.out.1 SF1.out.1 SF2.out.1 SF0.out.2.2 SF1.out.2.2 SF2.out.2.2).mono ?_
  rintro e w1 ⟨rfl, hb⟩
  rw [HBB.out]
  have HB1 := Aside0.mk (below_then HB0.out HB0.out.size hb)
  clear hb
  cases b with
  | false =>
    go_wp2_with fail
    refine (awake_calls _).mono ?_
    rintro e wz ⟨rfl, hb⟩
    have HBz := Aside0.mk (below_then HB1.out HB1.out.size hb)
    clear hb
    go_wp2
    go_ret
    exact ⟨rfl, HBz.out⟩
  | true =>
    have HOK := Aside0.mk (show quoteOk paper quotation kept = true by have h := HBB.out; rw [right_ok, Bool.and_eq_true] at h; exact h.1)
    have HP0 := Aside0.mk (show 1 ≤ (paper.length : Int) by have := (quoteOk_facts HOK.out).2.1; omega)
    go_wp2_with fail
    obtain ⟨r, hr⟩ : ∃ r, qSpec paper quotation kept = r := ⟨_, rfl⟩
    have HQ := Aside0.mk hr
    clear hr
    refine (list_calls A0 c0 paper _ (Kd.C_below HR0.out HB1.out) (Nat.le_trans SF0.out.1 (by decide))).mono ?_
    rintro e w2 ⟨Bx0, dx0, rfl, hd, hx, hb⟩
    have HXx0 := Aside0.mk hx
    have HDx0 := Aside0.mk hd
    clear hx hd
    have HB2 := Aside0.mk (below_then HB1.out HB1.out.size hb)
    clear hb
    go_wp2_with fail
    refine (list_calls A1 c1 quotation _ (Kd.C_below HR1.out HB2.out) (Nat.le_trans SF1.out.1 (by decide))).mono ?_
    rintro e w3 ⟨Bx1, dx1, rfl, hd, hx, hb⟩
    have HXx1 := Aside0.mk hx
    have HDx1 := Aside0.mk hd
    clear hx hd
    have n_ := Aside0.mk (Kd.C_below HXx0.out hb)
    clear HXx0
    have HXx0 := n_
    clear n_
    have HB3 := Aside0.mk (below_then HB2.out HB2.out.size hb)
    clear hb
    go_wp2_with fail
    refine (list_calls A2 c2 kept _ (Kd.C_below HR2.out HB3.out) (Nat.le_trans SF2.out.1 (by decide))).mono ?_
    rintro e w4 ⟨Bx2, dx2, rfl, hd, hx, hb⟩
    have HXx2 := Aside0.mk hx
    have HDx2 := Aside0.mk hd
    clear hx hd
    have n_ := Aside0.mk (Kd.C_below HXx0.out hb)
    clear HXx0
    have HXx0 := n_
    clear n_
    have n_ := Aside0.mk (Kd.C_below HXx1.out hb)
    clear HXx1
    have HXx1 := n_
    clear n_
    have HB4 := Aside0.mk (below_then HB3.out HB3.out.size hb)
    clear hb
    go_wp2_with fail
    refine (pQuote_calls Bx0 dx0 paper Bx1 dx1 quotation Bx2 dx2 kept r HQ.out _ HXx0.out HDx0.out HXx1.out HDx1.out HXx2.out HDx2.out).mono ?_
    rintro e w5 ⟨AL, cL, rfl, hd, hx, hb⟩
    have HXL := Aside0.mk hx
    have HDL := Aside0.mk hd
    clear hx hd HXx0 HXx1 HXx2
    have HB5 := Aside0.mk (below_then HB4.out HB4.out.size hb)
    clear hb
    go_wp2_with fail
    refine (list_calls A0 c0 paper _ (Kd.C_below HR0.out HB5.out) (Nat.le_trans SF0.out.1 (by decide))).mono ?_
    rintro e w6 ⟨By0, dy0, rfl, hd, hx, hb⟩
    have HXy0 := Aside0.mk hx
    have HDy0 := Aside0.mk hd
    clear hx hd
    have n_ := Aside0.mk (Kd.C_below HXL.out hb)
    clear HXL
    have HXL := n_
    clear n_
    have HB6 := Aside0.mk (below_then HB5.out HB5.out.size hb)
    clear hb
    go_wp2_with fail
    refine (list_calls A1 c1 quotation _ (Kd.C_below HR1.out HB6.out) (Nat.le_trans SF1.out.1 (by decide))).mono ?_
    rintro e w7 ⟨By1, dy1, rfl, hd, hx, hb⟩
    have HXy1 := Aside0.mk hx
    have HDy1 := Aside0.mk hd
    clear hx hd
    have n_ := Aside0.mk (Kd.C_below HXy0.out hb)
    clear HXy0
    have HXy0 := n_
    clear n_
    have n_ := Aside0.mk (Kd.C_below HXL.out hb)
    clear HXL
    have HXL := n_
    clear n_
    have HB7 := Aside0.mk (below_then HB6.out HB6.out.size hb)
    clear hb
    go_wp2_with fail
    refine (list_calls A2 c2 kept _ (Kd.C_below HR2.out HB7.out) (Nat.le_trans SF2.out.1 (by decide))).mono ?_
    rintro e w8 ⟨By2, dy2, rfl, hd, hx, hb⟩
    have HXy2 := Aside0.mk hx
    have HDy2 := Aside0.mk hd
    clear hx hd
    have n_ := Aside0.mk (Kd.C_below HXy0.out hb)
    clear HXy0
    have HXy0 := n_
    clear n_
    have n_ := Aside0.mk (Kd.C_below HXy1.out hb)
    clear HXy1
    have HXy1 := n_
    clear n_
    have n_ := Aside0.mk (Kd.C_below HXL.out hb)
    clear HXL
    have HXL := n_
    clear n_
    have HB8 := Aside0.mk (below_then HB7.out HB7.out.size hb)
    clear hb
    go_wp2_with ((with_reducible refine gate_builtin (b := .append) (xs := #[.const (.slice none 0 0), .tmp 63]) rfl ?_); at_builtin; refine Kd.R_append_rows (Kd.int .i64) (w0 := w8) w8.heap.size rfl (.const (.slice none 0 0)) (.tmp 63) 28 3 (.int .i64 0) 8 rfl Try.underlying28 info3 rfl (by decide) (by omega) (.slice none 0 0) [] places _ _ _ (fun _ => True) (fun _ => False) rfl rfl (Kd.R_nil _ _ _ _ _) (Kd.C_below HR3.out HB8.out) (fun _ _ h => h) (fun _ h => h.elim) (fun _ _ => trivial) (Below.refl _ _) (Nat.le_refl _) (by have := HPL.out; simp; omega) ?_; intro v6 w9 ho hb hg hat; rw [List.nil_append] at ho; obtain ⟨APP, cPP, e6⟩ := Kd.R_slice ho; subst e6; have HPP := Aside0.mk (Kd.R_reads' ho).2.2; clear ho hg hat)
    have n_ := Aside0.mk (Kd.C_below HXy0.out hb)
    clear HXy0
    have HXy0 := n_
    clear n_
    have n_ := Aside0.mk (Kd.C_below HXy1.out hb)
    clear HXy1
    have HXy1 := n_
    clear n_
    have n_ := Aside0.mk (Kd.C_below HXy2.out hb)
    clear HXy2
    have HXy2 := n_
    clear n_
    have n_ := Aside0.mk (Kd.C_below HXL.out hb)
    clear HXL
    have HXL := n_
    clear n_
    have HB9 := Aside0.mk (below_then HB8.out HB8.out.size hb)
    clear hb
    obtain ⟨pv, hpv⟩ : ∃ pv, proveQB paper quotation kept places = pv := ⟨_, rfl⟩
    have HPV := Aside0.mk hpv
    clear hpv
    refine (ProveQuote_calls By0 dy0 paper By1 dy1 quotation By2 dy2 kept APP cPP places _ HXy0.out HDy0.out HXy1.out HXy2.out HPP.out (by have := HPL.out; omega)).mono ?_
    rintro e w10 ⟨rfl, hb⟩
    rw [HPV.out]
    clear HXy0 HXy1 HXy2 HPP
    have n_ := Aside0.mk (Kd.C_below HXL.out hb)
    clear HXL
    have HXL := n_
    clear n_
    have HB10 := Aside0.mk (below_then HB9.out HB9.out.size hb)
    clear hb
    have hq := HQ.out
    unfold qSpec at hq
    rw [HBB.out, if_pos rfl] at hq
    obtain ⟨F, hF⟩ : ∃ F, findP paper kept (piecesOf quotation) (piecesOf quotation).length (-1) = F := ⟨_, rfl⟩
    rw [hF] at hq
    have HF := Aside0.mk hF
    clear hF HQ
    cases F with
    | none =>
      obtain rfl : r = ([], 7) := hq.symm
      cases pv with
      | true => obtain ⟨r, h, -⟩ := found_least HPV.out; rw [HF.out] at h; cases h
      | false =>
        simp only [List.length_nil] at HXL ⊢
        clear hq HXL HDL HF HPV
        have hp0 := HP0.out
        have hp1 := SF0.out.2.1
        have hfr := HFR.out
        have hmn := HMN.out
        have e1 : wrap64 from_ = from_ := by unfold wrap64; omega
        have e2 : wrap64 many = many := by unfold wrap64; omega
        have e5 : ((paper.length : Int) == 0) = false := beq_eq_false_iff_ne.mpr (by omega)
        have e6 : ((paper.length : Int) = 0) = False := eq_false (by omega)
        have e6b : (paper.length = 0) = False := eq_false (by omega)
        have e6c : (paper = []) = False := eq_false (fun h => by rw [h] at hp0; simp at hp0)
        obtain ⟨off, e3⟩ : ∃ off, Int.tmod from_ (paper.length : Int) = off := ⟨_, rfl⟩
        have hof : 0 ≤ off ∧ off < (paper.length : Int) := by rw [← e3]; exact ⟨Int.tmod_nonneg _ hfr.1, Int.tmod_lt_of_pos _ (by omega)⟩
        obtain ⟨k2, e4⟩ : ∃ k2, Int.tmod many ((paper.length : Int) - off) = k2 := ⟨_, rfl⟩
        have hk2 : 0 ≤ k2 ∧ k2 < (paper.length : Int) - off := by rw [← e4]; exact ⟨Int.tmod_nonneg _ hmn.1, Int.tmod_lt_of_pos _ (by omega)⟩
        have e7 : wrap64 (off + 1) = off + 1 := by unfold wrap64; omega
        have e8 : wrap64 ((paper.length : Int) - off) = (paper.length : Int) - off := by unfold wrap64; omega
        have e9 : ((paper.length : Int) - off == 0) = false := beq_eq_false_iff_ne.mpr (by omega)
        have e10 : ((paper.length : Int) - off = 0) = False := eq_false (by omega)
        have e11 : wrap64 (off + 1 + k2) = off + 1 + k2 := by unfold wrap64; omega
        have HOF := Aside0.mk (show 0 ≤ off ∧ 0 ≤ k2 ∧ off + 1 + k2 ≤ (paper.length : Int) by omega)
        clear hp0 hp1 hfr hmn hof hk2
        go_wp2_with fail
        obtain ⟨m, hm⟩ : ∃ m, off + 1 + k2 = m := ⟨_, rfl⟩
        try rw [e11]
        rw [hm] at HOF ⊢
        have HOM := Aside0.mk (show off + 1 ≤ m by have := HOF.out; omega)
        clear hm e1 e2 e3 e4 e5 e6 e6b e6c e7 e8 e9 e10 e11
        go_loopg [19, 20] (m - off).toNat (fun kq v19 v20 w' => ∃ i : Int, v20 = .int .i64 i ∧ Aside0 (off ≤ i ∧ i ≤ m ∧ kq + (i - off).toNat = (m - off).toNat) ∧ Aside0 (Kd.R (Kd.int .i64) 3 w' w.heap.size (fun _ => True) v19 (seqI off (i - off).toNat)) ∧ Aside0 (∀ j : Int, off ≤ j → j < i → isGap (rdOf ByteArray.empty paper j) = false) ∧ Aside0 (Below w.heap.size w w'))
        case atStart => exact ⟨off, rfl, ⟨by have := HOM.out; omega⟩, ⟨by rw [show (off - off).toNat = 0 by omega]; exact Kd.R_nil _ _ _ _ _⟩, ⟨fun j h1 h2 => absurd h2 (by omega)⟩, HB10⟩
        case round =>
          clear HB10
          obtain ⟨i, rfl, HK, HO, HG, HB⟩ := hrel
          rename World => W1
          by_cases hlt : i < m
          case pos =>
            have t0 : decide (i < m) = true := decide_eq_true hlt
            have i0 : 0 ≤ i := by have := HK.out; have := HOF.out; omega
            have i1 : i < (paper.length : Int) := by have := HOF.out; omega
            obtain ⟨ad, hA, g0⟩ := Kd.at_string (Kd.C_below HR0.out HB.out) i i0 i1
            have HSZ := Aside0.mk (show (rdOf ByteArray.empty paper i).size ≤ 9223372036854775807 from Nat.le_trans (SF0.out.2.2 _ (mem_rd i0 i1)) (by decide))
            obtain ⟨s, hs⟩ : ∃ s, rdOf ByteArray.empty paper i = s := ⟨_, rfl⟩
            rw [hs] at g0 HSZ
            have HS := Aside0.mk hs
            cases hA
            have HLT := Aside0.mk hlt
            have HW := Aside0.mk (show wrap64 (i + 1) = i + 1 by unfold wrap64; have := SF0.out.2.1; omega)
            replace i0 := eq_true i0
            replace i1 := eq_true i1
            clear hs
            cases hg : isGap s
            case true =>
              go_wp2_with (go_at_call 41; (with_reducible refine (Gap_calls _ _).mono ?_); rintro e w2 ⟨rfl, rfl⟩; rw [hg])
              refine (awake_calls _).mono ?_
              rintro e wz ⟨rfl, hb⟩
              have HBz := Aside0.mk (below_then HB.out HB.out.size hb)
              clear hb
              go_wp2
              go_ret
              exact ⟨rfl, HBz.out⟩
            case false =>
              cases hr : isRemark s
              case true =>
                go_wp2_with (first | (go_at_call 41; (with_reducible refine (Gap_calls _ _).mono ?_); rintro e w2 ⟨rfl, rfl⟩; rw [hg]) | (go_at_call 42; (with_reducible refine (rRemark_calls _ _ HSZ.out).mono ?_); rintro e w2 ⟨rfl, rfl⟩; rw [hr]))
                refine (awake_calls _).mono ?_
                rintro e wz ⟨rfl, hb⟩
                have HBz := Aside0.mk (below_then HB.out HB.out.size hb)
                clear hb
                go_wp2
                go_ret
                exact ⟨rfl, HBz.out⟩
              case false =>
                have HLS := Aside0.mk (show (seqI off (i - off).toNat).length ≤ 90 ∧ seqI off (i - off).toNat ++ [i] = seqI off (i + 1 - off).toNat by
                  refine ⟨by rw [seqI_len]; have := HK.out; have := HOF.out; have := SF0.out.2.1; omega, ?_⟩
                  rw [show (i + 1 - off).toNat = (i - off).toNat + 1 by have := HK.out; omega, seqI_snoc]
                  congr 2
                  have := HK.out; omega)
                have HG2 := Aside0.mk (show ∀ j : Int, off ≤ j → j < i + 1 → isGap (rdOf ByteArray.empty paper j) = false from fun j h1 h2 => by
                  by_cases e : j = i
                  · rw [e, HS.out]; exact hg
                  · exact HG.out j h1 (by omega))
                obtain ⟨sq, hsq⟩ : ∃ sq, seqI off (i - off).toNat = sq := ⟨_, rfl⟩
                rw [hsq] at HO HLS
                clear hsq HG
                go_wp2_with (first | (go_at_call 41; (with_reducible refine (Gap_calls _ _).mono ?_); rintro e w2 ⟨rfl, rfl⟩; rw [hg]) | (go_at_call 42; (with_reducible refine (rRemark_calls _ _ HSZ.out).mono ?_); rintro e w2 ⟨rfl, rfl⟩; rw [hr]) | ((with_reducible refine gate_builtin (b := .append) (xs := #[.tmp 155, .tmp 157]) rfl ?_); at_builtin; refine Kd.R_append (Kd.int .i64) (w0 := w) w.heap.size rfl (.tmp 155) (.tmp 157) 28 3 (.int .i64 0) 8 rfl Try.underlying28 info3 rfl (by decide) (by omega) u19 sq i [.int .i64 i] (fun _ => True) (fun _ => False) rfl rfl rfl (fun _ hk => hk.elim) (fun _ _ => trivial) HO.out HB.out (below_size HB.out) (by have := HLS.out; omega) ?_; intro v7 w7 ho hb hg hat; rw [HLS.out.2] at ho; have HO7 := Aside0.mk ho; have HB7 := Aside0.mk hb; clear ho hb hg hat))
                go_roundg (gk - 1)
                case measure => have := HK.out; have := HLT.out; omega
                case rel => exact ⟨i + 1, by first | rfl | rw [HW.out], ⟨by have := HK.out; have := HLT.out; omega⟩, HO7, HG2, HB7⟩
          case neg =>
            have t0 : decide (i < m) = false := decide_eq_false hlt
            obtain rfl : i = m := by have := HK.out; omega
            have hsp := span_fits (paper := paper) (kept := kept) (q := quotation) HOK.out off (i - off).toNat HOF.out.1 (by have := HOM.out; omega) (by have := HOF.out; have := HOM.out; omega) (fun j h1 h2 => HG.out j h1 (by have := HOM.out; omega))
            rw [show off + (((i - off).toNat : Nat) : Int) = i by have := HOM.out; omega] at hsp
            obtain ⟨A', L, HLL, hs1, hs2, hs3⟩ := Kd_mid A0 c0 paper off i w HOF.out.1 (by have := HOM.out; omega) HOF.out.2.2 HC0.out HR0.out
            rw [← HLL.out] at hsp
            have hll : L.length ≤ 1000000 := by have := SF0.out.1; omega
            have ho := HO.out
            obtain ⟨AW, cW, eW⟩ := Kd.R_slice ho
            subst eW
            have hcw := (Kd.R_reads' ho).2.2
            obtain ⟨sq, hsq⟩ : ∃ sq, seqI off (i - off).toNat = sq := ⟨_, rfl⟩
            have hsl : sq.length = (i - off).toNat := by rw [← hsq]; exact seqI_len _ _
            rw [hsq] at hsp hcw ⊢
            have HSP := Aside0.mk hsp
            have HL2 := Aside0.mk hs2
            have HLLN := Aside0.mk hll
            have HCW := Aside0.mk hcw
            have HSQ := Aside0.mk (show sq.length ≤ 1000000 by rw [hsl]; have := HOF.out; have := SF0.out.2.1; omega)
            clear hlt hsp hs2 hs3 hll hcw hsq hsl ho HO HG
            go_wp2
            have HBd := Aside0.mk (below_drew1 HB.out)
            have n_ := Aside0.mk (Kd.C_below HCW.out (below_drew (Below.refl _ _)))
            clear HCW
            have HCW := n_
            clear n_
            refine start_ (n := 15) (S := fun w' => True) (ds := []) #[false, false, false, false, false, false, false, false, false, false, false, false, false, false, false] (by kernel_rfl) rfl rfl trivial (fun hHeld => ?_)
            generalize W1.drew = wd at HBd HCW ⊢
            refine pure_ (i := 0) (N := some 159) (v := ?_) (a' := ?_) #[true, false, false, false, false, false, false, false, false, false, false, false, false, false, false] rfl rfl (by kernel_rfl) (fun _ _ _ h => h) (Or.inl ⟨by rfl, ?_⟩) ?_ ?_
            rotate_left
            · intro w'
              go_simp
              with_reducible rfl
            rotate_left
            · simp only [Act.put, List.setIfInBounds_toArray, List.set_cons_zero, List.set_cons_succ, i64_w, i32_w]
              rfl
            refine pure_ (i := 2) (N := some 161) (v := ?_) (a' := ?_) #[true, false, true, false, false, false, false, false, false, false, false, false, false, false, false] rfl rfl (by kernel_rfl) (fun _ _ _ h => h) (Or.inl ⟨by rfl, ?_⟩) ?_ ?_
            rotate_left
            · intro w'
              go_simp
              with_reducible rfl
            rotate_left
            · simp only [Act.put, List.setIfInBounds_toArray, List.set_cons_zero, List.set_cons_succ, i64_w, i32_w]
              rfl
            refine pure_ (i := 3) (N := some 162) (v := ?_) (a' := ?_) #[true, false, true, true, false, false, false, false, false, false, false, false, false, false, false] rfl rfl (by kernel_rfl) (fun _ _ _ h => h) (Or.inl ⟨by rfl, ?_⟩) ?_ ?_
            rotate_left
            · intro w'
              go_simp
              with_reducible rfl
            rotate_left
            · simp only [Act.put, List.setIfInBounds_toArray, List.set_cons_zero, List.set_cons_succ, i64_w, i32_w]
              rfl
            refine pure_ (i := 4) (N := some 163) (v := ?_) (a' := ?_) #[true, false, true, true, true, false, false, false, false, false, false, false, false, false, false] rfl rfl (by kernel_rfl) (fun _ _ _ h => h) (Or.inl ⟨by rfl, ?_⟩) ?_ ?_
            rotate_left
            · intro w'
              go_simp
              with_reducible rfl
            rotate_left
            · simp only [Act.put, List.setIfInBounds_toArray, List.set_cons_zero, List.set_cons_succ, i64_w, i32_w]
              rfl
            refine pure_ (i := 5) (N := some 164) (v := ?_) (a' := ?_) #[true, false, true, true, true, true, false, false, false, false, false, false, false, false, false] rfl rfl (by kernel_rfl) (fun _ _ _ h => h) (Or.inl ⟨by rfl, ?_⟩) ?_ ?_
            rotate_left
            · intro w'
              go_simp
              with_reducible rfl
            rotate_left
            · simp only [Act.put, List.setIfInBounds_toArray, List.set_cons_zero, List.set_cons_succ, i64_w, i32_w]
              rfl
            refine pure_ (i := 7) (N := some 166) (v := ?_) (a' := ?_) #[true, false, true, true, true, true, false, true, false, false, false, false, false, false, false] rfl rfl (by kernel_rfl) (fun _ _ _ h => h) (Or.inl ⟨by rfl, ?_⟩) ?_ ?_
            rotate_left
            · intro w'
              go_simp
              with_reducible rfl
            rotate_left
            · simp only [Act.put, List.setIfInBounds_toArray, List.set_cons_zero, List.set_cons_succ, i64_w, i32_w]
              rfl
            refine pure_ (i := 9) (N := some 168) (v := ?_) (a' := ?_) #[true, false, true, true, true, true, false, true, false, true, false, false, false, false, false] rfl rfl (by kernel_rfl) (fun _ _ _ h => h) (Or.inl ⟨by rfl, ?_⟩) ?_ ?_
            rotate_left
            · intro w'
              go_simp
              with_reducible rfl
            rotate_left
            · simp only [Act.put, List.setIfInBounds_toArray, List.set_cons_zero, List.set_cons_succ, i64_w, i32_w]
              rfl
            refine one_ (i := 1) (N := some 160) #[true, true, true, true, true, true, false, true, false, true, false, false, false, false, false] rfl rfl (by kernel_rfl) (by decide) (fun K hK => ?_)
            refine goes_ Try.func36 (by kernel_rfl) rfl #[.slice A0 paper.length c0] (by rfl) rfl rfl (by simp only [List.map_toArray, List.map_cons, List.map_nil]; rfl) ?_
            refine (list_calls A0 c0 paper _ (Kd.C_below HR0.out HBd.out) (Nat.le_trans SF0.out.1 (by decide))).mono ?_
            rintro e w3 ⟨Bz0, dz0, rfl, hd, hx, hb⟩
            refine ⟨_, rfl, ?_⟩
            have HZ0 := Aside0.mk hx
            have HD0 := Aside0.mk hd
            clear hx hd
            have n_ := Aside0.mk (below_then HBd.out HBd.out.size hb)
            clear HBd
            have HBd := n_
            clear n_
            have n_ := Aside0.mk (Kd.C_below HCW.out hb)
            clear HCW
            have HCW := n_
            clear n_
            clear hb
            refine hK.out _ _ trivial (fun hHeld => ?_)
            clear hK K
            refine norm_ (a' := ?_) ?_ ?_
            rotate_left
            · show Act.put _ (some 160) _ = _
              simp only [Act.put, List.setIfInBounds_toArray, List.set_cons_zero, List.set_cons_succ, i64_w, i32_w]
              rfl
            refine one_ (i := 6) (N := some 165) #[true, true, true, true, true, true, true, true, false, true, false, false, false, false, false] rfl rfl (by kernel_rfl) (by decide) (fun K hK => ?_)
            refine goes_ Try.func36 (by kernel_rfl) rfl #[.slice A' L.length (c0 - off.toNat)] (by rfl) rfl rfl (by simp only [List.map_toArray, List.map_cons, List.map_nil]; rfl) ?_
            refine (list_calls A' (c0 - off.toNat) L _ (Kd.C_below HL2.out HBd.out) (Nat.le_trans HLLN.out (by decide))).mono ?_
            rintro e w3 ⟨Bz1, dz1, rfl, hd, hx, hb⟩
            refine ⟨_, rfl, ?_⟩
            have HZ1 := Aside0.mk hx
            have HD1 := Aside0.mk hd
            clear hx hd
            have n_ := Aside0.mk (below_then HBd.out HBd.out.size hb)
            clear HBd
            have HBd := n_
            clear n_
            have n_ := Aside0.mk (Kd.C_below HCW.out hb)
            clear HCW
            have HCW := n_
            clear n_
            have n_ := Aside0.mk (Kd.C_below HZ0.out hb)
            clear HZ0
            have HZ0 := n_
            clear n_
            clear hb
            refine hK.out _ _ trivial (fun hHeld => ?_)
            clear hK K
            refine norm_ (a' := ?_) ?_ ?_
            rotate_left
            · show Act.put _ (some 165) _ = _
              simp only [Act.put, List.setIfInBounds_toArray, List.set_cons_zero, List.set_cons_succ, i64_w, i32_w]
              rfl
            refine one_ (i := 8) (N := some 167) #[true, true, true, true, true, true, true, true, true, true, false, false, false, false, false] rfl rfl (by kernel_rfl) (by decide) (fun K hK => ?_)
            refine goes_ Try.func36 (by kernel_rfl) rfl #[.slice A2 kept.length c2] (by rfl) rfl rfl (by simp only [List.map_toArray, List.map_cons, List.map_nil]; rfl) ?_
            refine (list_calls A2 c2 kept _ (Kd.C_below HR2.out HBd.out) (Nat.le_trans SF2.out.1 (by decide))).mono ?_
            rintro e w3 ⟨Bz2, dz2, rfl, hd, hx, hb⟩
            refine ⟨_, rfl, ?_⟩
            have HZ2 := Aside0.mk hx
            have HD2 := Aside0.mk hd
            clear hx hd
            have n_ := Aside0.mk (below_then HBd.out HBd.out.size hb)
            clear HBd
            have HBd := n_
            clear n_
            have n_ := Aside0.mk (Kd.C_below HCW.out hb)
            clear HCW
            have HCW := n_
            clear n_
            have n_ := Aside0.mk (Kd.C_below HZ0.out hb)
            clear HZ0
            have HZ0 := n_
            clear n_
            have n_ := Aside0.mk (Kd.C_below HZ1.out hb)
            clear HZ1
            have HZ1 := n_
            clear n_
            clear hb
            refine hK.out _ _ trivial (fun hHeld => ?_)
            clear hK K
            refine norm_ (a' := ?_) ?_ ?_
            rotate_left
            · show Act.put _ (some 167) _ = _
              simp only [Act.put, List.setIfInBounds_toArray, List.set_cons_zero, List.set_cons_succ, i64_w, i32_w]
              rfl
            refine one_ (i := 10) (N := some 169) #[true, true, true, true, true, true, true, true, true, true, true, false, false, false, false] rfl rfl (by kernel_rfl) (by decide) (fun K hK => ?_)
            refine goes_ Try.func37 (by kernel_rfl) rfl #[.slice Bz0 paper.length dz0, .slice Bz1 L.length dz1, .slice Bz2 kept.length dz2, .slice AW sq.length cW] (by rfl) rfl rfl (by simp only [List.map_toArray, List.map_cons, List.map_nil]; rfl) ?_
            refine (ProveQuote_calls Bz0 dz0 paper Bz1 dz1 L Bz2 dz2 kept AW cW sq _ HZ0.out HD0.out HZ1.out HZ2.out HCW.out HSQ.out).mono ?_
            rintro e w3 ⟨rfl, hb⟩
            rw [HSP.out]
            refine ⟨_, rfl, ?_⟩
            have n_ := Aside0.mk (below_then HBd.out HBd.out.size hb)
            clear HBd
            have HBd := n_
            clear n_
            clear hb
            refine hK.out _ _ trivial (fun hHeld => ?_)
            clear hK K
            refine norm_ (a' := ?_) ?_ ?_
            rotate_left
            · show Act.put _ (some 169) _ = _
              simp only [Act.put, List.setIfInBounds_toArray, List.set_cons_zero, List.set_cons_succ, i64_w, i32_w]
              rfl
            refine pure_ (i := 11) (N := some 170) (v := ?_) (a' := ?_) #[true, true, true, true, true, true, true, true, true, true, true, true, false, false, false] rfl rfl (by kernel_rfl) (fun _ _ _ h => h) (Or.inl ⟨by rfl, ?_⟩) ?_ ?_
            rotate_left
            · intro w'
              go_simp
              with_reducible rfl
            rotate_left
            · simp only [Act.put, List.setIfInBounds_toArray, List.set_cons_zero, List.set_cons_succ, i64_w, i32_w]
              rfl
            refine one_ (i := 12) (N := some 171) #[true, true, true, true, true, true, true, true, true, true, true, true, true, false, false] rfl rfl (by kernel_rfl) (by decide) (fun K hK => ?_)
            refine goes_ Try.func18 (by kernel_rfl) rfl #[] (by rfl) rfl rfl (by simp only [List.map_toArray, List.map_cons, List.map_nil]) ?_
            refine (awake_calls _).mono ?_
            rintro e w3 ⟨rfl, hb⟩
            refine ⟨_, rfl, ?_⟩
            have n_ := Aside0.mk (below_then HBd.out HBd.out.size hb)
            clear HBd
            have HBd := n_
            clear n_
            clear hb
            refine hK.out _ _ trivial (fun hHeld => ?_)
            clear hK K
            refine norm_ (a' := ?_) ?_ ?_
            rotate_left
            · show Act.put _ (some 171) _ = _
              simp only [Act.put, List.setIfInBounds_toArray, List.set_cons_zero, List.set_cons_succ, i64_w, i32_w]
              rfl
            refine pure_ (i := 13) (N := some 172) (v := ?_) (a' := ?_) #[true, true, true, true, true, true, true, true, true, true, true, true, true, true, false] rfl rfl (by kernel_rfl) (fun _ _ _ h => h) (Or.inl ⟨by rfl, ?_⟩) ?_ ?_
            rotate_left
            · intro w'
              go_simp
              with_reducible rfl
            rotate_left
            · simp only [Act.put, List.setIfInBounds_toArray, List.set_cons_zero, List.set_cons_succ, i64_w, i32_w]
              rfl
            refine pure_ (i := 14) (N := some 12) (v := ?_) (a' := ?_) #[true, true, true, true, true, true, true, true, true, true, true, true, true, true, true] rfl rfl (by kernel_rfl) (fun _ _ _ h => h) (Or.inl ⟨by rfl, ?_⟩) ?_ ?_
            rotate_left
            · intro w'
              go_simp
              with_reducible rfl
            rotate_left
            · simp only [Act.put, List.setIfInBounds_toArray, List.set_cons_zero, List.set_cons_succ, i64_w, i32_w]
              rfl
            refine done_ (by kernel_rfl) ?_
            go_wp2
            go_ret
            exact ⟨rfl, HBd.out⟩
    | some l =>
      obtain rfl : r = (l, 0) := hq.symm
      simp only at HXL HDL ⊢
      obtain ⟨-, hfp, hfn, -⟩ := found_fits HBB.out HF.out
      have HFP := Aside0.mk hfp
      have HFN := Aside0.mk hfn
      clear hq hfp hfn
      go_wp2_with fail
      refine (list_calls A0 c0 paper _ (Kd.C_below HR0.out HB10.out) (Nat.le_trans SF0.out.1 (by decide))).mono ?_
      rintro e w11 ⟨Bz0, dz0, rfl, hd, hx, hb⟩
      have HXz0 := Aside0.mk hx
      have HDz0 := Aside0.mk hd
      clear hx hd
      have n_ := Aside0.mk (Kd.C_below HXL.out hb)
      clear HXL
      have HXL := n_
      clear n_
      have HB11 := Aside0.mk (below_then HB10.out HB10.out.size hb)
      clear hb
      go_wp2_with fail
      refine (list_calls A1 c1 quotation _ (Kd.C_below HR1.out HB11.out) (Nat.le_trans SF1.out.1 (by decide))).mono ?_
      rintro e w12 ⟨Bz1, dz1, rfl, hd, hx, hb⟩
      have HXz1 := Aside0.mk hx
      have HDz1 := Aside0.mk hd
      clear hx hd
      have n_ := Aside0.mk (Kd.C_below HXz0.out hb)
      clear HXz0
      have HXz0 := n_
      clear n_
      have n_ := Aside0.mk (Kd.C_below HXL.out hb)
      clear HXL
      have HXL := n_
      clear n_
      have HB12 := Aside0.mk (below_then HB11.out HB11.out.size hb)
      clear hb
      go_wp2_with fail
      refine (list_calls A2 c2 kept _ (Kd.C_below HR2.out HB12.out) (Nat.le_trans SF2.out.1 (by decide))).mono ?_
      rintro e w13 ⟨Bz2, dz2, rfl, hd, hx, hb⟩
      have HXz2 := Aside0.mk hx
      have HDz2 := Aside0.mk hd
      clear hx hd
      have n_ := Aside0.mk (Kd.C_below HXz0.out hb)
      clear HXz0
      have HXz0 := n_
      clear n_
      have n_ := Aside0.mk (Kd.C_below HXz1.out hb)
      clear HXz1
      have HXz1 := n_
      clear n_
      have n_ := Aside0.mk (Kd.C_below HXL.out hb)
      clear HXL
      have HXL := n_
      clear n_
      have HB13 := Aside0.mk (below_then HB12.out HB12.out.size hb)
      clear hb
      go_wp2_with ((with_reducible refine gate_builtin (b := .append) (xs := #[.const (.slice none 0 0), .tmp 79]) rfl ?_); at_builtin; refine Kd.R_append_rows (Kd.int .i64) (w0 := w13) w13.heap.size rfl (.const (.slice none 0 0)) (.tmp 79) 28 3 (.int .i64 0) 8 rfl Try.underlying28 info3 rfl (by decide) (by omega) (.slice none 0 0) [] l _ _ _ (fun _ => True) (fun _ => False) rfl rfl (Kd.R_nil _ _ _ _ _) HXL.out (fun _ _ h => h) (fun _ h => h.elim) (fun _ _ => trivial) (Below.refl _ _) (Nat.le_refl _) (by have := HFN.out; simp; omega) ?_; intro v6 w14 ho hb hg hat; rw [List.nil_append] at ho; obtain ⟨APZ, cPZ, e6⟩ := Kd.R_slice ho; subst e6; have HPZ := Aside0.mk (Kd.R_reads' ho).2.2; clear ho hg hat)
      have n_ := Aside0.mk (Kd.C_below HXz0.out hb)
      clear HXz0
      have HXz0 := n_
      clear n_
      have n_ := Aside0.mk (Kd.C_below HXz1.out hb)
      clear HXz1
      have HXz1 := n_
      clear n_
      have n_ := Aside0.mk (Kd.C_below HXz2.out hb)
      clear HXz2
      have HXz2 := n_
      clear n_
      have n_ := Aside0.mk (Kd.C_below HXL.out hb)
      clear HXL
      have HXL := n_
      clear n_
      have HB14 := Aside0.mk (below_then HB13.out HB13.out.size hb)
      clear hb
      refine (ProveQuote_calls Bz0 dz0 paper Bz1 dz1 quotation Bz2 dz2 kept APZ cPZ l _ HXz0.out HDz0.out HXz1.out HXz2.out HPZ.out (by have := HFN.out; omega)).mono ?_
      rintro e w15 ⟨rfl, hb⟩
      rw [HFP.out]
      clear HXz0 HXz1 HXz2 HPZ
      have n_ := Aside0.mk (Kd.C_below HXL.out hb)
      clear HXL
      have HXL := n_
      clear n_
      have HB15 := Aside0.mk (below_then HB14.out HB14.out.size hb)
      clear hb
      cases pv with
      | false =>
        clear HXL HDL HF HPV HFP HFN
        have hp0 := HP0.out
        have hp1 := SF0.out.2.1
        have hfr := HFR.out
        have hmn := HMN.out
        have e1 : wrap64 from_ = from_ := by unfold wrap64; omega
        have e2 : wrap64 many = many := by unfold wrap64; omega
        have e5 : ((paper.length : Int) == 0) = false := beq_eq_false_iff_ne.mpr (by omega)
        have e6 : ((paper.length : Int) = 0) = False := eq_false (by omega)
        have e6b : (paper.length = 0) = False := eq_false (by omega)
        have e6c : (paper = []) = False := eq_false (fun h => by rw [h] at hp0; simp at hp0)
        obtain ⟨off, e3⟩ : ∃ off, Int.tmod from_ (paper.length : Int) = off := ⟨_, rfl⟩
        have hof : 0 ≤ off ∧ off < (paper.length : Int) := by rw [← e3]; exact ⟨Int.tmod_nonneg _ hfr.1, Int.tmod_lt_of_pos _ (by omega)⟩
        obtain ⟨k2, e4⟩ : ∃ k2, Int.tmod many ((paper.length : Int) - off) = k2 := ⟨_, rfl⟩
        have hk2 : 0 ≤ k2 ∧ k2 < (paper.length : Int) - off := by rw [← e4]; exact ⟨Int.tmod_nonneg _ hmn.1, Int.tmod_lt_of_pos _ (by omega)⟩
        have e7 : wrap64 (off + 1) = off + 1 := by unfold wrap64; omega
        have e8 : wrap64 ((paper.length : Int) - off) = (paper.length : Int) - off := by unfold wrap64; omega
        have e9 : ((paper.length : Int) - off == 0) = false := beq_eq_false_iff_ne.mpr (by omega)
        have e10 : ((paper.length : Int) - off = 0) = False := eq_false (by omega)
        have e11 : wrap64 (off + 1 + k2) = off + 1 + k2 := by unfold wrap64; omega
        have HOF := Aside0.mk (show 0 ≤ off ∧ 0 ≤ k2 ∧ off + 1 + k2 ≤ (paper.length : Int) by omega)
        clear hp0 hp1 hfr hmn hof hk2
        go_wp2_with fail
        obtain ⟨m, hm⟩ : ∃ m, off + 1 + k2 = m := ⟨_, rfl⟩
        try rw [e11]
        rw [hm] at HOF ⊢
        have HOM := Aside0.mk (show off + 1 ≤ m by have := HOF.out; omega)
        clear hm e1 e2 e3 e4 e5 e6 e6b e6c e7 e8 e9 e10 e11
        go_loopg [19, 20] (m - off).toNat (fun kq v19 v20 w' => ∃ i : Int, v20 = .int .i64 i ∧ Aside0 (off ≤ i ∧ i ≤ m ∧ kq + (i - off).toNat = (m - off).toNat) ∧ Aside0 (Kd.R (Kd.int .i64) 3 w' w.heap.size (fun _ => True) v19 (seqI off (i - off).toNat)) ∧ Aside0 (∀ j : Int, off ≤ j → j < i → isGap (rdOf ByteArray.empty paper j) = false) ∧ Aside0 (Below w.heap.size w w'))
        case atStart => exact ⟨off, rfl, ⟨by have := HOM.out; omega⟩, ⟨by rw [show (off - off).toNat = 0 by omega]; exact Kd.R_nil _ _ _ _ _⟩, ⟨fun j h1 h2 => absurd h2 (by omega)⟩, HB15⟩
        case round =>
          clear HB15
          obtain ⟨i, rfl, HK, HO, HG, HB⟩ := hrel
          rename World => W1
          by_cases hlt : i < m
          case pos =>
            have t0 : decide (i < m) = true := decide_eq_true hlt
            have i0 : 0 ≤ i := by have := HK.out; have := HOF.out; omega
            have i1 : i < (paper.length : Int) := by have := HOF.out; omega
            obtain ⟨ad, hA, g0⟩ := Kd.at_string (Kd.C_below HR0.out HB.out) i i0 i1
            have HSZ := Aside0.mk (show (rdOf ByteArray.empty paper i).size ≤ 9223372036854775807 from Nat.le_trans (SF0.out.2.2 _ (mem_rd i0 i1)) (by decide))
            obtain ⟨s, hs⟩ : ∃ s, rdOf ByteArray.empty paper i = s := ⟨_, rfl⟩
            rw [hs] at g0 HSZ
            have HS := Aside0.mk hs
            cases hA
            have HLT := Aside0.mk hlt
            have HW := Aside0.mk (show wrap64 (i + 1) = i + 1 by unfold wrap64; have := SF0.out.2.1; omega)
            replace i0 := eq_true i0
            replace i1 := eq_true i1
            clear hs
            cases hg : isGap s
            case true =>
              go_wp2_with (go_at_call 41; (with_reducible refine (Gap_calls _ _).mono ?_); rintro e w2 ⟨rfl, rfl⟩; rw [hg])
              refine (awake_calls _).mono ?_
              rintro e wz ⟨rfl, hb⟩
              have HBz := Aside0.mk (below_then HB.out HB.out.size hb)
              clear hb
              go_wp2
              go_ret
              exact ⟨rfl, HBz.out⟩
            case false =>
              cases hr : isRemark s
              case true =>
                go_wp2_with (first | (go_at_call 41; (with_reducible refine (Gap_calls _ _).mono ?_); rintro e w2 ⟨rfl, rfl⟩; rw [hg]) | (go_at_call 42; (with_reducible refine (rRemark_calls _ _ HSZ.out).mono ?_); rintro e w2 ⟨rfl, rfl⟩; rw [hr]))
                refine (awake_calls _).mono ?_
                rintro e wz ⟨rfl, hb⟩
                have HBz := Aside0.mk (below_then HB.out HB.out.size hb)
                clear hb
                go_wp2
                go_ret
                exact ⟨rfl, HBz.out⟩
              case false =>
                have HLS := Aside0.mk (show (seqI off (i - off).toNat).length ≤ 90 ∧ seqI off (i - off).toNat ++ [i] = seqI off (i + 1 - off).toNat by
                  refine ⟨by rw [seqI_len]; have := HK.out; have := HOF.out; have := SF0.out.2.1; omega, ?_⟩
                  rw [show (i + 1 - off).toNat = (i - off).toNat + 1 by have := HK.out; omega, seqI_snoc]
                  congr 2
                  have := HK.out; omega)
                have HG2 := Aside0.mk (show ∀ j : Int, off ≤ j → j < i + 1 → isGap (rdOf ByteArray.empty paper j) = false from fun j h1 h2 => by
                  by_cases e : j = i
                  · rw [e, HS.out]; exact hg
                  · exact HG.out j h1 (by omega))
                obtain ⟨sq, hsq⟩ : ∃ sq, seqI off (i - off).toNat = sq := ⟨_, rfl⟩
                rw [hsq] at HO HLS
                clear hsq HG
                go_wp2_with (first | (go_at_call 41; (with_reducible refine (Gap_calls _ _).mono ?_); rintro e w2 ⟨rfl, rfl⟩; rw [hg]) | (go_at_call 42; (with_reducible refine (rRemark_calls _ _ HSZ.out).mono ?_); rintro e w2 ⟨rfl, rfl⟩; rw [hr]) | ((with_reducible refine gate_builtin (b := .append) (xs := #[.tmp 155, .tmp 157]) rfl ?_); at_builtin; refine Kd.R_append (Kd.int .i64) (w0 := w) w.heap.size rfl (.tmp 155) (.tmp 157) 28 3 (.int .i64 0) 8 rfl Try.underlying28 info3 rfl (by decide) (by omega) u19 sq i [.int .i64 i] (fun _ => True) (fun _ => False) rfl rfl rfl (fun _ hk => hk.elim) (fun _ _ => trivial) HO.out HB.out (below_size HB.out) (by have := HLS.out; omega) ?_; intro v7 w7 ho hb hg hat; rw [HLS.out.2] at ho; have HO7 := Aside0.mk ho; have HB7 := Aside0.mk hb; clear ho hb hg hat))
                go_roundg (gk - 1)
                case measure => have := HK.out; have := HLT.out; omega
                case rel => exact ⟨i + 1, by first | rfl | rw [HW.out], ⟨by have := HK.out; have := HLT.out; omega⟩, HO7, HG2, HB7⟩
          case neg =>
            have t0 : decide (i < m) = false := decide_eq_false hlt
            obtain rfl : i = m := by have := HK.out; omega
            have hsp := span_fits (paper := paper) (kept := kept) (q := quotation) HOK.out off (i - off).toNat HOF.out.1 (by have := HOM.out; omega) (by have := HOF.out; have := HOM.out; omega) (fun j h1 h2 => HG.out j h1 (by have := HOM.out; omega))
            rw [show off + (((i - off).toNat : Nat) : Int) = i by have := HOM.out; omega] at hsp
            obtain ⟨A', L, HLL, hs1, hs2, hs3⟩ := Kd_mid A0 c0 paper off i w HOF.out.1 (by have := HOM.out; omega) HOF.out.2.2 HC0.out HR0.out
            rw [← HLL.out] at hsp
            have hll : L.length ≤ 1000000 := by have := SF0.out.1; omega
            have ho := HO.out
            obtain ⟨AW, cW, eW⟩ := Kd.R_slice ho
            subst eW
            have hcw := (Kd.R_reads' ho).2.2
            obtain ⟨sq, hsq⟩ : ∃ sq, seqI off (i - off).toNat = sq := ⟨_, rfl⟩
            have hsl : sq.length = (i - off).toNat := by rw [← hsq]; exact seqI_len _ _
            rw [hsq] at hsp hcw ⊢
            have HSP := Aside0.mk hsp
            have HL2 := Aside0.mk hs2
            have HLLN := Aside0.mk hll
            have HCW := Aside0.mk hcw
            have HSQ := Aside0.mk (show sq.length ≤ 1000000 by rw [hsl]; have := HOF.out; have := SF0.out.2.1; omega)
            clear hlt hsp hs2 hs3 hll hcw hsq hsl ho HO HG
            go_wp2
            have HBd := Aside0.mk (below_drew1 HB.out)
            have n_ := Aside0.mk (Kd.C_below HCW.out (below_drew (Below.refl _ _)))
            clear HCW
            have HCW := n_
            clear n_
            refine start_ (n := 15) (S := fun w' => True) (ds := []) #[false, false, false, false, false, false, false, false, false, false, false, false, false, false, false] (by kernel_rfl) rfl rfl trivial (fun hHeld => ?_)
            generalize W1.drew = wd at HBd HCW ⊢
            refine pure_ (i := 0) (N := some 159) (v := ?_) (a' := ?_) #[true, false, false, false, false, false, false, false, false, false, false, false, false, false, false] rfl rfl (by kernel_rfl) (fun _ _ _ h => h) (Or.inl ⟨by rfl, ?_⟩) ?_ ?_
            rotate_left
            · intro w'
              go_simp
              with_reducible rfl
            rotate_left
            · simp only [Act.put, List.setIfInBounds_toArray, List.set_cons_zero, List.set_cons_succ, i64_w, i32_w]
              rfl
            refine pure_ (i := 2) (N := some 161) (v := ?_) (a' := ?_) #[true, false, true, false, false, false, false, false, false, false, false, false, false, false, false] rfl rfl (by kernel_rfl) (fun _ _ _ h => h) (Or.inl ⟨by rfl, ?_⟩) ?_ ?_
            rotate_left
            · intro w'
              go_simp
              with_reducible rfl
            rotate_left
            · simp only [Act.put, List.setIfInBounds_toArray, List.set_cons_zero, List.set_cons_succ, i64_w, i32_w]
              rfl
            refine pure_ (i := 3) (N := some 162) (v := ?_) (a' := ?_) #[true, false, true, true, false, false, false, false, false, false, false, false, false, false, false] rfl rfl (by kernel_rfl) (fun _ _ _ h => h) (Or.inl ⟨by rfl, ?_⟩) ?_ ?_
            rotate_left
            · intro w'
              go_simp
              with_reducible rfl
            rotate_left
            · simp only [Act.put, List.setIfInBounds_toArray, List.set_cons_zero, List.set_cons_succ, i64_w, i32_w]
              rfl
            refine pure_ (i := 4) (N := some 163) (v := ?_) (a' := ?_) #[true, false, true, true, true, false, false, false, false, false, false, false, false, false, false] rfl rfl (by kernel_rfl) (fun _ _ _ h => h) (Or.inl ⟨by rfl, ?_⟩) ?_ ?_
            rotate_left
            · intro w'
              go_simp
              with_reducible rfl
            rotate_left
            · simp only [Act.put, List.setIfInBounds_toArray, List.set_cons_zero, List.set_cons_succ, i64_w, i32_w]
              rfl
            refine pure_ (i := 5) (N := some 164) (v := ?_) (a' := ?_) #[true, false, true, true, true, true, false, false, false, false, false, false, false, false, false] rfl rfl (by kernel_rfl) (fun _ _ _ h => h) (Or.inl ⟨by rfl, ?_⟩) ?_ ?_
            rotate_left
            · intro w'
              go_simp
              with_reducible rfl
            rotate_left
            · simp only [Act.put, List.setIfInBounds_toArray, List.set_cons_zero, List.set_cons_succ, i64_w, i32_w]
              rfl
            refine pure_ (i := 7) (N := some 166) (v := ?_) (a' := ?_) #[true, false, true, true, true, true, false, true, false, false, false, false, false, false, false] rfl rfl (by kernel_rfl) (fun _ _ _ h => h) (Or.inl ⟨by rfl, ?_⟩) ?_ ?_
            rotate_left
            · intro w'
              go_simp
              with_reducible rfl
            rotate_left
            · simp only [Act.put, List.setIfInBounds_toArray, List.set_cons_zero, List.set_cons_succ, i64_w, i32_w]
              rfl
            refine pure_ (i := 9) (N := some 168) (v := ?_) (a' := ?_) #[true, false, true, true, true, true, false, true, false, true, false, false, false, false, false] rfl rfl (by kernel_rfl) (fun _ _ _ h => h) (Or.inl ⟨by rfl, ?_⟩) ?_ ?_
            rotate_left
            · intro w'
              go_simp
              with_reducible rfl
            rotate_left
            · simp only [Act.put, List.setIfInBounds_toArray, List.set_cons_zero, List.set_cons_succ, i64_w, i32_w]
              rfl
            refine one_ (i := 1) (N := some 160) #[true, true, true, true, true, true, false, true, false, true, false, false, false, false, false] rfl rfl (by kernel_rfl) (by decide) (fun K hK => ?_)
            refine goes_ Try.func36 (by kernel_rfl) rfl #[.slice A0 paper.length c0] (by rfl) rfl rfl (by simp only [List.map_toArray, List.map_cons, List.map_nil]; rfl) ?_
            refine (list_calls A0 c0 paper _ (Kd.C_below HR0.out HBd.out) (Nat.le_trans SF0.out.1 (by decide))).mono ?_
            rintro e w3 ⟨Bz0, dz0, rfl, hd, hx, hb⟩
            refine ⟨_, rfl, ?_⟩
            have HZ0 := Aside0.mk hx
            have HD0 := Aside0.mk hd
            clear hx hd
            have n_ := Aside0.mk (below_then HBd.out HBd.out.size hb)
            clear HBd
            have HBd := n_
            clear n_
            have n_ := Aside0.mk (Kd.C_below HCW.out hb)
            clear HCW
            have HCW := n_
            clear n_
            clear hb
            refine hK.out _ _ trivial (fun hHeld => ?_)
            clear hK K
            refine norm_ (a' := ?_) ?_ ?_
            rotate_left
            · show Act.put _ (some 160) _ = _
              simp only [Act.put, List.setIfInBounds_toArray, List.set_cons_zero, List.set_cons_succ, i64_w, i32_w]
              rfl
            refine one_ (i := 6) (N := some 165) #[true, true, true, true, true, true, true, true, false, true, false, false, false, false, false] rfl rfl (by kernel_rfl) (by decide) (fun K hK => ?_)
            refine goes_ Try.func36 (by kernel_rfl) rfl #[.slice A' L.length (c0 - off.toNat)] (by rfl) rfl rfl (by simp only [List.map_toArray, List.map_cons, List.map_nil]; rfl) ?_
            refine (list_calls A' (c0 - off.toNat) L _ (Kd.C_below HL2.out HBd.out) (Nat.le_trans HLLN.out (by decide))).mono ?_
            rintro e w3 ⟨Bz1, dz1, rfl, hd, hx, hb⟩
            refine ⟨_, rfl, ?_⟩
            have HZ1 := Aside0.mk hx
            have HD1 := Aside0.mk hd
            clear hx hd
            have n_ := Aside0.mk (below_then HBd.out HBd.out.size hb)
            clear HBd
            have HBd := n_
            clear n_
            have n_ := Aside0.mk (Kd.C_below HCW.out hb)
            clear HCW
            have HCW := n_
            clear n_
            have n_ := Aside0.mk (Kd.C_below HZ0.out hb)
            clear HZ0
            have HZ0 := n_
            clear n_
            clear hb
            refine hK.out _ _ trivial (fun hHeld => ?_)
            clear hK K
            refine norm_ (a' := ?_) ?_ ?_
            rotate_left
            · show Act.put _ (some 165) _ = _
              simp only [Act.put, List.setIfInBounds_toArray, List.set_cons_zero, List.set_cons_succ, i64_w, i32_w]
              rfl
            refine one_ (i := 8) (N := some 167) #[true, true, true, true, true, true, true, true, true, true, false, false, false, false, false] rfl rfl (by kernel_rfl) (by decide) (fun K hK => ?_)
            refine goes_ Try.func36 (by kernel_rfl) rfl #[.slice A2 kept.length c2] (by rfl) rfl rfl (by simp only [List.map_toArray, List.map_cons, List.map_nil]; rfl) ?_
            refine (list_calls A2 c2 kept _ (Kd.C_below HR2.out HBd.out) (Nat.le_trans SF2.out.1 (by decide))).mono ?_
            rintro e w3 ⟨Bz2, dz2, rfl, hd, hx, hb⟩
            refine ⟨_, rfl, ?_⟩
            have HZ2 := Aside0.mk hx
            have HD2 := Aside0.mk hd
            clear hx hd
            have n_ := Aside0.mk (below_then HBd.out HBd.out.size hb)
            clear HBd
            have HBd := n_
            clear n_
            have n_ := Aside0.mk (Kd.C_below HCW.out hb)
            clear HCW
            have HCW := n_
            clear n_
            have n_ := Aside0.mk (Kd.C_below HZ0.out hb)
            clear HZ0
            have HZ0 := n_
            clear n_
            have n_ := Aside0.mk (Kd.C_below HZ1.out hb)
            clear HZ1
            have HZ1 := n_
            clear n_
            clear hb
            refine hK.out _ _ trivial (fun hHeld => ?_)
            clear hK K
            refine norm_ (a' := ?_) ?_ ?_
            rotate_left
            · show Act.put _ (some 167) _ = _
              simp only [Act.put, List.setIfInBounds_toArray, List.set_cons_zero, List.set_cons_succ, i64_w, i32_w]
              rfl
            refine one_ (i := 10) (N := some 169) #[true, true, true, true, true, true, true, true, true, true, true, false, false, false, false] rfl rfl (by kernel_rfl) (by decide) (fun K hK => ?_)
            refine goes_ Try.func37 (by kernel_rfl) rfl #[.slice Bz0 paper.length dz0, .slice Bz1 L.length dz1, .slice Bz2 kept.length dz2, .slice AW sq.length cW] (by rfl) rfl rfl (by simp only [List.map_toArray, List.map_cons, List.map_nil]; rfl) ?_
            refine (ProveQuote_calls Bz0 dz0 paper Bz1 dz1 L Bz2 dz2 kept AW cW sq _ HZ0.out HD0.out HZ1.out HZ2.out HCW.out HSQ.out).mono ?_
            rintro e w3 ⟨rfl, hb⟩
            rw [HSP.out]
            refine ⟨_, rfl, ?_⟩
            have n_ := Aside0.mk (below_then HBd.out HBd.out.size hb)
            clear HBd
            have HBd := n_
            clear n_
            clear hb
            refine hK.out _ _ trivial (fun hHeld => ?_)
            clear hK K
            refine norm_ (a' := ?_) ?_ ?_
            rotate_left
            · show Act.put _ (some 169) _ = _
              simp only [Act.put, List.setIfInBounds_toArray, List.set_cons_zero, List.set_cons_succ, i64_w, i32_w]
              rfl
            refine pure_ (i := 11) (N := some 170) (v := ?_) (a' := ?_) #[true, true, true, true, true, true, true, true, true, true, true, true, false, false, false] rfl rfl (by kernel_rfl) (fun _ _ _ h => h) (Or.inl ⟨by rfl, ?_⟩) ?_ ?_
            rotate_left
            · intro w'
              go_simp
              with_reducible rfl
            rotate_left
            · simp only [Act.put, List.setIfInBounds_toArray, List.set_cons_zero, List.set_cons_succ, i64_w, i32_w]
              rfl
            refine one_ (i := 12) (N := some 171) #[true, true, true, true, true, true, true, true, true, true, true, true, true, false, false] rfl rfl (by kernel_rfl) (by decide) (fun K hK => ?_)
            refine goes_ Try.func18 (by kernel_rfl) rfl #[] (by rfl) rfl rfl (by simp only [List.map_toArray, List.map_cons, List.map_nil]) ?_
            refine (awake_calls _).mono ?_
            rintro e w3 ⟨rfl, hb⟩
            refine ⟨_, rfl, ?_⟩
            have n_ := Aside0.mk (below_then HBd.out HBd.out.size hb)
            clear HBd
            have HBd := n_
            clear n_
            clear hb
            refine hK.out _ _ trivial (fun hHeld => ?_)
            clear hK K
            refine norm_ (a' := ?_) ?_ ?_
            rotate_left
            · show Act.put _ (some 171) _ = _
              simp only [Act.put, List.setIfInBounds_toArray, List.set_cons_zero, List.set_cons_succ, i64_w, i32_w]
              rfl
            refine pure_ (i := 13) (N := some 172) (v := ?_) (a' := ?_) #[true, true, true, true, true, true, true, true, true, true, true, true, true, true, false] rfl rfl (by kernel_rfl) (fun _ _ _ h => h) (Or.inl ⟨by rfl, ?_⟩) ?_ ?_
            rotate_left
            · intro w'
              go_simp
              with_reducible rfl
            rotate_left
            · simp only [Act.put, List.setIfInBounds_toArray, List.set_cons_zero, List.set_cons_succ, i64_w, i32_w]
              rfl
            refine pure_ (i := 14) (N := some 12) (v := ?_) (a' := ?_) #[true, true, true, true, true, true, true, true, true, true, true, true, true, true, true] rfl rfl (by kernel_rfl) (fun _ _ _ h => h) (Or.inl ⟨by rfl, ?_⟩) ?_ ?_
            rotate_left
            · intro w'
              go_simp
              with_reducible rfl
            rotate_left
            · simp only [Act.put, List.setIfInBounds_toArray, List.set_cons_zero, List.set_cons_succ, i64_w, i32_w]
              rfl
            refine done_ (by kernel_rfl) ?_
            go_wp2
            go_ret
            exact ⟨rfl, HBd.out⟩
      | true =>
        obtain ⟨r, hr, hlx, hrl⟩ := found_least HPV.out
        rw [HF.out] at hr
        cases hr
        have HRL := Aside0.mk hrl
        have HLX := Aside0.mk (show Lex (l.drop (0 : Int).toNat) (places.drop (0 : Int).toNat) from hlx)
        have e1 : ((places.length : Int) != (l.length : Int)) = false := bne_eq_false_iff_eq.mpr (by omega)
        clear hlx hrl
        go_wp2_with fail
        clear e1
        go_loopg [16] l.length (fun kq v16 w' => ∃ i : Int, v16 = .int .i64 i ∧ Aside0 (0 ≤ i ∧ kq + i.toNat = l.length) ∧ Aside0 (Lex (l.drop i.toNat) (places.drop i.toNat)) ∧ Aside0 (Below w15.heap.size w15 w'))
        case atStart => exact ⟨0, rfl, ⟨by simp⟩, HLX, ⟨Below.refl _ _⟩⟩
        case round =>
          clear HLX
          obtain ⟨i, rfl, HK, HLX, HBB2⟩ := hrel
          rename World => W1
          have HB16 := Aside0.mk (below_then HB15.out HB15.out.size HBB2.out)
          by_cases hlt : i < (l.length : Int)
          case neg =>
            have t0 : decide (i < (l.length : Int)) = false := decide_eq_false hlt
            have HBq := fun n => Aside0.mk (pw_below_drewN HB16.out n)
            clear hlt
            go_wp2
            go_quiet (fail)
            go_wp2
            go_quiet (fail)
            clear t0 HK HLX HBB2 HF HPV HFP HFN HRL HXL HDL
            have hp0 := HP0.out
            have hp1 := SF0.out.2.1
            have hfr := HFR.out
            have hmn := HMN.out
            have e1 : wrap64 from_ = from_ := by unfold wrap64; omega
            have e2 : wrap64 many = many := by unfold wrap64; omega
            have e5 : ((paper.length : Int) == 0) = false := beq_eq_false_iff_ne.mpr (by omega)
            have e6 : ((paper.length : Int) = 0) = False := eq_false (by omega)
            have e6b : (paper.length = 0) = False := eq_false (by omega)
            have e6c : (paper = []) = False := eq_false (fun h => by rw [h] at hp0; simp at hp0)
            obtain ⟨off, e3⟩ : ∃ off, Int.tmod from_ (paper.length : Int) = off := ⟨_, rfl⟩
            have hof : 0 ≤ off ∧ off < (paper.length : Int) := by rw [← e3]; exact ⟨Int.tmod_nonneg _ hfr.1, Int.tmod_lt_of_pos _ (by omega)⟩
            obtain ⟨k2, e4⟩ : ∃ k2, Int.tmod many ((paper.length : Int) - off) = k2 := ⟨_, rfl⟩
            have hk2 : 0 ≤ k2 ∧ k2 < (paper.length : Int) - off := by rw [← e4]; exact ⟨Int.tmod_nonneg _ hmn.1, Int.tmod_lt_of_pos _ (by omega)⟩
            have e7 : wrap64 (off + 1) = off + 1 := by unfold wrap64; omega
            have e8 : wrap64 ((paper.length : Int) - off) = (paper.length : Int) - off := by unfold wrap64; omega
            have e9 : ((paper.length : Int) - off == 0) = false := beq_eq_false_iff_ne.mpr (by omega)
            have e10 : ((paper.length : Int) - off = 0) = False := eq_false (by omega)
            have e11 : wrap64 (off + 1 + k2) = off + 1 + k2 := by unfold wrap64; omega
            have HOF := Aside0.mk (show 0 ≤ off ∧ 0 ≤ k2 ∧ off + 1 + k2 ≤ (paper.length : Int) by omega)
            clear hp0 hp1 hfr hmn hof hk2
            go_wp2_with fail
            obtain ⟨m, hm⟩ : ∃ m, off + 1 + k2 = m := ⟨_, rfl⟩
            try rw [e11]
            rw [hm] at HOF ⊢
            have HOM := Aside0.mk (show off + 1 ≤ m by have := HOF.out; omega)
            clear hm e1 e2 e3 e4 e5 e6 e6b e6c e7 e8 e9 e10 e11
            go_loopg [19, 20] (m - off).toNat (fun kq v19 v20 w' => ∃ i : Int, v20 = .int .i64 i ∧ Aside0 (off ≤ i ∧ i ≤ m ∧ kq + (i - off).toNat = (m - off).toNat) ∧ Aside0 (Kd.R (Kd.int .i64) 3 w' w.heap.size (fun _ => True) v19 (seqI off (i - off).toNat)) ∧ Aside0 (∀ j : Int, off ≤ j → j < i → isGap (rdOf ByteArray.empty paper j) = false) ∧ Aside0 (Below w.heap.size w w'))
            case atStart => exact ⟨off, rfl, ⟨by have := HOM.out; omega⟩, ⟨by rw [show (off - off).toNat = 0 by omega]; exact Kd.R_nil _ _ _ _ _⟩, ⟨fun j h1 h2 => absurd h2 (by omega)⟩, (HBq _)⟩
            case round =>
              clear HBq
              obtain ⟨i, rfl, HK, HO, HG, HB⟩ := hrel
              rename World => W1
              by_cases hlt : i < m
              case pos =>
                have t0 : decide (i < m) = true := decide_eq_true hlt
                have i0 : 0 ≤ i := by have := HK.out; have := HOF.out; omega
                have i1 : i < (paper.length : Int) := by have := HOF.out; omega
                obtain ⟨ad, hA, g0⟩ := Kd.at_string (Kd.C_below HR0.out HB.out) i i0 i1
                have HSZ := Aside0.mk (show (rdOf ByteArray.empty paper i).size ≤ 9223372036854775807 from Nat.le_trans (SF0.out.2.2 _ (mem_rd i0 i1)) (by decide))
                obtain ⟨s, hs⟩ : ∃ s, rdOf ByteArray.empty paper i = s := ⟨_, rfl⟩
                rw [hs] at g0 HSZ
                have HS := Aside0.mk hs
                cases hA
                have HLT := Aside0.mk hlt
                have HW := Aside0.mk (show wrap64 (i + 1) = i + 1 by unfold wrap64; have := SF0.out.2.1; omega)
                replace i0 := eq_true i0
                replace i1 := eq_true i1
                clear hs
                cases hg : isGap s
                case true =>
                  go_wp2_with (go_at_call 41; (with_reducible refine (Gap_calls _ _).mono ?_); rintro e w2 ⟨rfl, rfl⟩; rw [hg])
                  refine (awake_calls _).mono ?_
                  rintro e wz ⟨rfl, hb⟩
                  have HBz := Aside0.mk (below_then HB.out HB.out.size hb)
                  clear hb
                  go_wp2
                  go_ret
                  exact ⟨rfl, HBz.out⟩
                case false =>
                  cases hr : isRemark s
                  case true =>
                    go_wp2_with (first | (go_at_call 41; (with_reducible refine (Gap_calls _ _).mono ?_); rintro e w2 ⟨rfl, rfl⟩; rw [hg]) | (go_at_call 42; (with_reducible refine (rRemark_calls _ _ HSZ.out).mono ?_); rintro e w2 ⟨rfl, rfl⟩; rw [hr]))
                    refine (awake_calls _).mono ?_
                    rintro e wz ⟨rfl, hb⟩
                    have HBz := Aside0.mk (below_then HB.out HB.out.size hb)
                    clear hb
                    go_wp2
                    go_ret
                    exact ⟨rfl, HBz.out⟩
                  case false =>
                    have HLS := Aside0.mk (show (seqI off (i - off).toNat).length ≤ 90 ∧ seqI off (i - off).toNat ++ [i] = seqI off (i + 1 - off).toNat by
                      refine ⟨by rw [seqI_len]; have := HK.out; have := HOF.out; have := SF0.out.2.1; omega, ?_⟩
                      rw [show (i + 1 - off).toNat = (i - off).toNat + 1 by have := HK.out; omega, seqI_snoc]
                      congr 2
                      have := HK.out; omega)
                    have HG2 := Aside0.mk (show ∀ j : Int, off ≤ j → j < i + 1 → isGap (rdOf ByteArray.empty paper j) = false from fun j h1 h2 => by
                      by_cases e : j = i
                      · rw [e, HS.out]; exact hg
                      · exact HG.out j h1 (by omega))
                    obtain ⟨sq, hsq⟩ : ∃ sq, seqI off (i - off).toNat = sq := ⟨_, rfl⟩
                    rw [hsq] at HO HLS
                    clear hsq HG
                    go_wp2_with (first | (go_at_call 41; (with_reducible refine (Gap_calls _ _).mono ?_); rintro e w2 ⟨rfl, rfl⟩; rw [hg]) | (go_at_call 42; (with_reducible refine (rRemark_calls _ _ HSZ.out).mono ?_); rintro e w2 ⟨rfl, rfl⟩; rw [hr]) | ((with_reducible refine gate_builtin (b := .append) (xs := #[.tmp 155, .tmp 157]) rfl ?_); at_builtin; refine Kd.R_append (Kd.int .i64) (w0 := w) w.heap.size rfl (.tmp 155) (.tmp 157) 28 3 (.int .i64 0) 8 rfl Try.underlying28 info3 rfl (by decide) (by omega) u19 sq i [.int .i64 i] (fun _ => True) (fun _ => False) rfl rfl rfl (fun _ hk => hk.elim) (fun _ _ => trivial) HO.out HB.out (below_size HB.out) (by have := HLS.out; omega) ?_; intro v7 w7 ho hb hg hat; rw [HLS.out.2] at ho; have HO7 := Aside0.mk ho; have HB7 := Aside0.mk hb; clear ho hb hg hat))
                    go_roundg (gk - 1)
                    case measure => have := HK.out; have := HLT.out; omega
                    case rel => exact ⟨i + 1, by first | rfl | rw [HW.out], ⟨by have := HK.out; have := HLT.out; omega⟩, HO7, HG2, HB7⟩
              case neg =>
                have t0 : decide (i < m) = false := decide_eq_false hlt
                obtain rfl : i = m := by have := HK.out; omega
                have hsp := span_fits (paper := paper) (kept := kept) (q := quotation) HOK.out off (i - off).toNat HOF.out.1 (by have := HOM.out; omega) (by have := HOF.out; have := HOM.out; omega) (fun j h1 h2 => HG.out j h1 (by have := HOM.out; omega))
                rw [show off + (((i - off).toNat : Nat) : Int) = i by have := HOM.out; omega] at hsp
                obtain ⟨A', L, HLL, hs1, hs2, hs3⟩ := Kd_mid A0 c0 paper off i w HOF.out.1 (by have := HOM.out; omega) HOF.out.2.2 HC0.out HR0.out
                rw [← HLL.out] at hsp
                have hll : L.length ≤ 1000000 := by have := SF0.out.1; omega
                have ho := HO.out
                obtain ⟨AW, cW, eW⟩ := Kd.R_slice ho
                subst eW
                have hcw := (Kd.R_reads' ho).2.2
                obtain ⟨sq, hsq⟩ : ∃ sq, seqI off (i - off).toNat = sq := ⟨_, rfl⟩
                have hsl : sq.length = (i - off).toNat := by rw [← hsq]; exact seqI_len _ _
                rw [hsq] at hsp hcw ⊢
                have HSP := Aside0.mk hsp
                have HL2 := Aside0.mk hs2
                have HLLN := Aside0.mk hll
                have HCW := Aside0.mk hcw
                have HSQ := Aside0.mk (show sq.length ≤ 1000000 by rw [hsl]; have := HOF.out; have := SF0.out.2.1; omega)
                clear hlt hsp hs2 hs3 hll hcw hsq hsl ho HO HG
                go_wp2
                have HBd := Aside0.mk (below_drew1 HB.out)
                have n_ := Aside0.mk (Kd.C_below HCW.out (below_drew (Below.refl _ _)))
                clear HCW
                have HCW := n_
                clear n_
                refine start_ (n := 15) (S := fun w' => True) (ds := []) #[false, false, false, false, false, false, false, false, false, false, false, false, false, false, false] (by kernel_rfl) rfl rfl trivial (fun hHeld => ?_)
                generalize W1.drew = wd at HBd HCW ⊢
                refine pure_ (i := 0) (N := some 159) (v := ?_) (a' := ?_) #[true, false, false, false, false, false, false, false, false, false, false, false, false, false, false] rfl rfl (by kernel_rfl) (fun _ _ _ h => h) (Or.inl ⟨by rfl, ?_⟩) ?_ ?_
                rotate_left
                · intro w'
                  go_simp
                  with_reducible rfl
                rotate_left
                · simp only [Act.put, List.setIfInBounds_toArray, List.set_cons_zero, List.set_cons_succ, i64_w, i32_w]
                  rfl
                refine pure_ (i := 2) (N := some 161) (v := ?_) (a' := ?_) #[true, false, true, false, false, false, false, false, false, false, false, false, false, false, false] rfl rfl (by kernel_rfl) (fun _ _ _ h => h) (Or.inl ⟨by rfl, ?_⟩) ?_ ?_
                rotate_left
                · intro w'
                  go_simp
                  with_reducible rfl
                rotate_left
                · simp only [Act.put, List.setIfInBounds_toArray, List.set_cons_zero, List.set_cons_succ, i64_w, i32_w]
                  rfl
                refine pure_ (i := 3) (N := some 162) (v := ?_) (a' := ?_) #[true, false, true, true, false, false, false, false, false, false, false, false, false, false, false] rfl rfl (by kernel_rfl) (fun _ _ _ h => h) (Or.inl ⟨by rfl, ?_⟩) ?_ ?_
                rotate_left
                · intro w'
                  go_simp
                  with_reducible rfl
                rotate_left
                · simp only [Act.put, List.setIfInBounds_toArray, List.set_cons_zero, List.set_cons_succ, i64_w, i32_w]
                  rfl
                refine pure_ (i := 4) (N := some 163) (v := ?_) (a' := ?_) #[true, false, true, true, true, false, false, false, false, false, false, false, false, false, false] rfl rfl (by kernel_rfl) (fun _ _ _ h => h) (Or.inl ⟨by rfl, ?_⟩) ?_ ?_
                rotate_left
                · intro w'
                  go_simp
                  with_reducible rfl
                rotate_left
                · simp only [Act.put, List.setIfInBounds_toArray, List.set_cons_zero, List.set_cons_succ, i64_w, i32_w]
                  rfl
                refine pure_ (i := 5) (N := some 164) (v := ?_) (a' := ?_) #[true, false, true, true, true, true, false, false, false, false, false, false, false, false, false] rfl rfl (by kernel_rfl) (fun _ _ _ h => h) (Or.inl ⟨by rfl, ?_⟩) ?_ ?_
                rotate_left
                · intro w'
                  go_simp
                  with_reducible rfl
                rotate_left
                · simp only [Act.put, List.setIfInBounds_toArray, List.set_cons_zero, List.set_cons_succ, i64_w, i32_w]
                  rfl
                refine pure_ (i := 7) (N := some 166) (v := ?_) (a' := ?_) #[true, false, true, true, true, true, false, true, false, false, false, false, false, false, false] rfl rfl (by kernel_rfl) (fun _ _ _ h => h) (Or.inl ⟨by rfl, ?_⟩) ?_ ?_
                rotate_left
                · intro w'
                  go_simp
                  with_reducible rfl
                rotate_left
                · simp only [Act.put, List.setIfInBounds_toArray, List.set_cons_zero, List.set_cons_succ, i64_w, i32_w]
                  rfl
                refine pure_ (i := 9) (N := some 168) (v := ?_) (a' := ?_) #[true, false, true, true, true, true, false, true, false, true, false, false, false, false, false] rfl rfl (by kernel_rfl) (fun _ _ _ h => h) (Or.inl ⟨by rfl, ?_⟩) ?_ ?_
                rotate_left
                · intro w'
                  go_simp
                  with_reducible rfl
                rotate_left
                · simp only [Act.put, List.setIfInBounds_toArray, List.set_cons_zero, List.set_cons_succ, i64_w, i32_w]
                  rfl
                refine one_ (i := 1) (N := some 160) #[true, true, true, true, true, true, false, true, false, true, false, false, false, false, false] rfl rfl (by kernel_rfl) (by decide) (fun K hK => ?_)
                refine goes_ Try.func36 (by kernel_rfl) rfl #[.slice A0 paper.length c0] (by rfl) rfl rfl (by simp only [List.map_toArray, List.map_cons, List.map_nil]; rfl) ?_
                refine (list_calls A0 c0 paper _ (Kd.C_below HR0.out HBd.out) (Nat.le_trans SF0.out.1 (by decide))).mono ?_
                rintro e w3 ⟨Bz0, dz0, rfl, hd, hx, hb⟩
                refine ⟨_, rfl, ?_⟩
                have HZ0 := Aside0.mk hx
                have HD0 := Aside0.mk hd
                clear hx hd
                have n_ := Aside0.mk (below_then HBd.out HBd.out.size hb)
                clear HBd
                have HBd := n_
                clear n_
                have n_ := Aside0.mk (Kd.C_below HCW.out hb)
                clear HCW
                have HCW := n_
                clear n_
                clear hb
                refine hK.out _ _ trivial (fun hHeld => ?_)
                clear hK K
                refine norm_ (a' := ?_) ?_ ?_
                rotate_left
                · show Act.put _ (some 160) _ = _
                  simp only [Act.put, List.setIfInBounds_toArray, List.set_cons_zero, List.set_cons_succ, i64_w, i32_w]
                  rfl
                refine one_ (i := 6) (N := some 165) #[true, true, true, true, true, true, true, true, false, true, false, false, false, false, false] rfl rfl (by kernel_rfl) (by decide) (fun K hK => ?_)
                refine goes_ Try.func36 (by kernel_rfl) rfl #[.slice A' L.length (c0 - off.toNat)] (by rfl) rfl rfl (by simp only [List.map_toArray, List.map_cons, List.map_nil]; rfl) ?_
                refine (list_calls A' (c0 - off.toNat) L _ (Kd.C_below HL2.out HBd.out) (Nat.le_trans HLLN.out (by decide))).mono ?_
                rintro e w3 ⟨Bz1, dz1, rfl, hd, hx, hb⟩
                refine ⟨_, rfl, ?_⟩
                have HZ1 := Aside0.mk hx
                have HD1 := Aside0.mk hd
                clear hx hd
                have n_ := Aside0.mk (below_then HBd.out HBd.out.size hb)
                clear HBd
                have HBd := n_
                clear n_
                have n_ := Aside0.mk (Kd.C_below HCW.out hb)
                clear HCW
                have HCW := n_
                clear n_
                have n_ := Aside0.mk (Kd.C_below HZ0.out hb)
                clear HZ0
                have HZ0 := n_
                clear n_
                clear hb
                refine hK.out _ _ trivial (fun hHeld => ?_)
                clear hK K
                refine norm_ (a' := ?_) ?_ ?_
                rotate_left
                · show Act.put _ (some 165) _ = _
                  simp only [Act.put, List.setIfInBounds_toArray, List.set_cons_zero, List.set_cons_succ, i64_w, i32_w]
                  rfl
                refine one_ (i := 8) (N := some 167) #[true, true, true, true, true, true, true, true, true, true, false, false, false, false, false] rfl rfl (by kernel_rfl) (by decide) (fun K hK => ?_)
                refine goes_ Try.func36 (by kernel_rfl) rfl #[.slice A2 kept.length c2] (by rfl) rfl rfl (by simp only [List.map_toArray, List.map_cons, List.map_nil]; rfl) ?_
                refine (list_calls A2 c2 kept _ (Kd.C_below HR2.out HBd.out) (Nat.le_trans SF2.out.1 (by decide))).mono ?_
                rintro e w3 ⟨Bz2, dz2, rfl, hd, hx, hb⟩
                refine ⟨_, rfl, ?_⟩
                have HZ2 := Aside0.mk hx
                have HD2 := Aside0.mk hd
                clear hx hd
                have n_ := Aside0.mk (below_then HBd.out HBd.out.size hb)
                clear HBd
                have HBd := n_
                clear n_
                have n_ := Aside0.mk (Kd.C_below HCW.out hb)
                clear HCW
                have HCW := n_
                clear n_
                have n_ := Aside0.mk (Kd.C_below HZ0.out hb)
                clear HZ0
                have HZ0 := n_
                clear n_
                have n_ := Aside0.mk (Kd.C_below HZ1.out hb)
                clear HZ1
                have HZ1 := n_
                clear n_
                clear hb
                refine hK.out _ _ trivial (fun hHeld => ?_)
                clear hK K
                refine norm_ (a' := ?_) ?_ ?_
                rotate_left
                · show Act.put _ (some 167) _ = _
                  simp only [Act.put, List.setIfInBounds_toArray, List.set_cons_zero, List.set_cons_succ, i64_w, i32_w]
                  rfl
                refine one_ (i := 10) (N := some 169) #[true, true, true, true, true, true, true, true, true, true, true, false, false, false, false] rfl rfl (by kernel_rfl) (by decide) (fun K hK => ?_)
                refine goes_ Try.func37 (by kernel_rfl) rfl #[.slice Bz0 paper.length dz0, .slice Bz1 L.length dz1, .slice Bz2 kept.length dz2, .slice AW sq.length cW] (by rfl) rfl rfl (by simp only [List.map_toArray, List.map_cons, List.map_nil]; rfl) ?_
                refine (ProveQuote_calls Bz0 dz0 paper Bz1 dz1 L Bz2 dz2 kept AW cW sq _ HZ0.out HD0.out HZ1.out HZ2.out HCW.out HSQ.out).mono ?_
                rintro e w3 ⟨rfl, hb⟩
                rw [HSP.out]
                refine ⟨_, rfl, ?_⟩
                have n_ := Aside0.mk (below_then HBd.out HBd.out.size hb)
                clear HBd
                have HBd := n_
                clear n_
                clear hb
                refine hK.out _ _ trivial (fun hHeld => ?_)
                clear hK K
                refine norm_ (a' := ?_) ?_ ?_
                rotate_left
                · show Act.put _ (some 169) _ = _
                  simp only [Act.put, List.setIfInBounds_toArray, List.set_cons_zero, List.set_cons_succ, i64_w, i32_w]
                  rfl
                refine pure_ (i := 11) (N := some 170) (v := ?_) (a' := ?_) #[true, true, true, true, true, true, true, true, true, true, true, true, false, false, false] rfl rfl (by kernel_rfl) (fun _ _ _ h => h) (Or.inl ⟨by rfl, ?_⟩) ?_ ?_
                rotate_left
                · intro w'
                  go_simp
                  with_reducible rfl
                rotate_left
                · simp only [Act.put, List.setIfInBounds_toArray, List.set_cons_zero, List.set_cons_succ, i64_w, i32_w]
                  rfl
                refine one_ (i := 12) (N := some 171) #[true, true, true, true, true, true, true, true, true, true, true, true, true, false, false] rfl rfl (by kernel_rfl) (by decide) (fun K hK => ?_)
                refine goes_ Try.func18 (by kernel_rfl) rfl #[] (by rfl) rfl rfl (by simp only [List.map_toArray, List.map_cons, List.map_nil]) ?_
                refine (awake_calls _).mono ?_
                rintro e w3 ⟨rfl, hb⟩
                refine ⟨_, rfl, ?_⟩
                have n_ := Aside0.mk (below_then HBd.out HBd.out.size hb)
                clear HBd
                have HBd := n_
                clear n_
                clear hb
                refine hK.out _ _ trivial (fun hHeld => ?_)
                clear hK K
                refine norm_ (a' := ?_) ?_ ?_
                rotate_left
                · show Act.put _ (some 171) _ = _
                  simp only [Act.put, List.setIfInBounds_toArray, List.set_cons_zero, List.set_cons_succ, i64_w, i32_w]
                  rfl
                refine pure_ (i := 13) (N := some 172) (v := ?_) (a' := ?_) #[true, true, true, true, true, true, true, true, true, true, true, true, true, true, false] rfl rfl (by kernel_rfl) (fun _ _ _ h => h) (Or.inl ⟨by rfl, ?_⟩) ?_ ?_
                rotate_left
                · intro w'
                  go_simp
                  with_reducible rfl
                rotate_left
                · simp only [Act.put, List.setIfInBounds_toArray, List.set_cons_zero, List.set_cons_succ, i64_w, i32_w]
                  rfl
                refine pure_ (i := 14) (N := some 12) (v := ?_) (a' := ?_) #[true, true, true, true, true, true, true, true, true, true, true, true, true, true, true] rfl rfl (by kernel_rfl) (fun _ _ _ h => h) (Or.inl ⟨by rfl, ?_⟩) ?_ ?_
                rotate_left
                · intro w'
                  go_simp
                  with_reducible rfl
                rotate_left
                · simp only [Act.put, List.setIfInBounds_toArray, List.set_cons_zero, List.set_cons_succ, i64_w, i32_w]
                  rfl
                refine done_ (by kernel_rfl) ?_
                go_wp2
                go_ret
                exact ⟨rfl, HBd.out⟩
          case pos =>
            have t0 : decide (i < (l.length : Int)) = true := decide_eq_true hlt
            have i0 : 0 ≤ i := HK.out.1
            have hip : i < (places.length : Int) := by have := HRL.out; omega
            obtain ⟨pa, hA, g1⟩ := Kd.at_int (Kd.C_below HR3.out HB16.out) i i0 hip
            obtain ⟨pl, hA2, g2⟩ := Kd.at_int (Kd.C_below HXL.out HBB2.out) i i0 hlt
            have he := HLX.out
            rw [drop_int l i i0 hlt, drop_int places i i0 hip, Lex] at he
            obtain ⟨a, ha⟩ : ∃ a, rd places i = a := ⟨_, rfl⟩
            obtain ⟨c, hc⟩ : ∃ c, rd l i = c := ⟨_, rfl⟩
            rw [ha] at g1 he
            rw [hc] at g2 he
            cases hA
            cases hA2
            have HLT := Aside0.mk hlt
            have HW := Aside0.mk (show wrap64 (i + 1) = i + 1 by unfold wrap64; have := HK.out; have := HFN.out; omega)
            replace i0 := eq_true i0
            replace hip := eq_true hip
            replace hlt := eq_true hlt
            clear ha hc
            rcases he with he | ⟨he, hlx⟩
            case inl =>
              have x1 : (a == c) = false := beq_eq_false_iff_ne.mpr (by omega)
              have x2 : decide (a < c) = false := decide_eq_false (by omega)
              have HBq := fun n => Aside0.mk (pw_below_drewN HB16.out n)
              clear he
              go_wp2
              go_quiet (fail)
              go_wp2
              go_quiet (fail)
              clear t0 i0 hip hlt g1 g2 x1 x2 HK HLX HBB2 HF HPV HFP HFN HRL HXL HDL HLT HW
              have hp0 := HP0.out
              have hp1 := SF0.out.2.1
              have hfr := HFR.out
              have hmn := HMN.out
              have e1 : wrap64 from_ = from_ := by unfold wrap64; omega
              have e2 : wrap64 many = many := by unfold wrap64; omega
              have e5 : ((paper.length : Int) == 0) = false := beq_eq_false_iff_ne.mpr (by omega)
              have e6 : ((paper.length : Int) = 0) = False := eq_false (by omega)
              have e6b : (paper.length = 0) = False := eq_false (by omega)
              have e6c : (paper = []) = False := eq_false (fun h => by rw [h] at hp0; simp at hp0)
              obtain ⟨off, e3⟩ : ∃ off, Int.tmod from_ (paper.length : Int) = off := ⟨_, rfl⟩
              have hof : 0 ≤ off ∧ off < (paper.length : Int) := by rw [← e3]; exact ⟨Int.tmod_nonneg _ hfr.1, Int.tmod_lt_of_pos _ (by omega)⟩
              obtain ⟨k2, e4⟩ : ∃ k2, Int.tmod many ((paper.length : Int) - off) = k2 := ⟨_, rfl⟩
              have hk2 : 0 ≤ k2 ∧ k2 < (paper.length : Int) - off := by rw [← e4]; exact ⟨Int.tmod_nonneg _ hmn.1, Int.tmod_lt_of_pos _ (by omega)⟩
              have e7 : wrap64 (off + 1) = off + 1 := by unfold wrap64; omega
              have e8 : wrap64 ((paper.length : Int) - off) = (paper.length : Int) - off := by unfold wrap64; omega
              have e9 : ((paper.length : Int) - off == 0) = false := beq_eq_false_iff_ne.mpr (by omega)
              have e10 : ((paper.length : Int) - off = 0) = False := eq_false (by omega)
              have e11 : wrap64 (off + 1 + k2) = off + 1 + k2 := by unfold wrap64; omega
              have HOF := Aside0.mk (show 0 ≤ off ∧ 0 ≤ k2 ∧ off + 1 + k2 ≤ (paper.length : Int) by omega)
              clear hp0 hp1 hfr hmn hof hk2
              go_wp2_with fail
              obtain ⟨m, hm⟩ : ∃ m, off + 1 + k2 = m := ⟨_, rfl⟩
              try rw [e11]
              rw [hm] at HOF ⊢
              have HOM := Aside0.mk (show off + 1 ≤ m by have := HOF.out; omega)
              clear hm e1 e2 e3 e4 e5 e6 e6b e6c e7 e8 e9 e10 e11
              go_loopg [19, 20] (m - off).toNat (fun kq v19 v20 w' => ∃ i : Int, v20 = .int .i64 i ∧ Aside0 (off ≤ i ∧ i ≤ m ∧ kq + (i - off).toNat = (m - off).toNat) ∧ Aside0 (Kd.R (Kd.int .i64) 3 w' w.heap.size (fun _ => True) v19 (seqI off (i - off).toNat)) ∧ Aside0 (∀ j : Int, off ≤ j → j < i → isGap (rdOf ByteArray.empty paper j) = false) ∧ Aside0 (Below w.heap.size w w'))
              case atStart => exact ⟨off, rfl, ⟨by have := HOM.out; omega⟩, ⟨by rw [show (off - off).toNat = 0 by omega]; exact Kd.R_nil _ _ _ _ _⟩, ⟨fun j h1 h2 => absurd h2 (by omega)⟩, (HBq _)⟩
              case round =>
                clear HBq
                obtain ⟨i, rfl, HK, HO, HG, HB⟩ := hrel
                rename World => W1
                by_cases hlt : i < m
                case pos =>
                  have t0 : decide (i < m) = true := decide_eq_true hlt
                  have i0 : 0 ≤ i := by have := HK.out; have := HOF.out; omega
                  have i1 : i < (paper.length : Int) := by have := HOF.out; omega
                  obtain ⟨ad, hA, g0⟩ := Kd.at_string (Kd.C_below HR0.out HB.out) i i0 i1
                  have HSZ := Aside0.mk (show (rdOf ByteArray.empty paper i).size ≤ 9223372036854775807 from Nat.le_trans (SF0.out.2.2 _ (mem_rd i0 i1)) (by decide))
                  obtain ⟨s, hs⟩ : ∃ s, rdOf ByteArray.empty paper i = s := ⟨_, rfl⟩
                  rw [hs] at g0 HSZ
                  have HS := Aside0.mk hs
                  cases hA
                  have HLT := Aside0.mk hlt
                  have HW := Aside0.mk (show wrap64 (i + 1) = i + 1 by unfold wrap64; have := SF0.out.2.1; omega)
                  replace i0 := eq_true i0
                  replace i1 := eq_true i1
                  clear hs
                  cases hg : isGap s
                  case true =>
                    go_wp2_with (go_at_call 41; (with_reducible refine (Gap_calls _ _).mono ?_); rintro e w2 ⟨rfl, rfl⟩; rw [hg])
                    refine (awake_calls _).mono ?_
                    rintro e wz ⟨rfl, hb⟩
                    have HBz := Aside0.mk (below_then HB.out HB.out.size hb)
                    clear hb
                    go_wp2
                    go_ret
                    exact ⟨rfl, HBz.out⟩
                  case false =>
                    cases hr : isRemark s
                    case true =>
                      go_wp2_with (first | (go_at_call 41; (with_reducible refine (Gap_calls _ _).mono ?_); rintro e w2 ⟨rfl, rfl⟩; rw [hg]) | (go_at_call 42; (with_reducible refine (rRemark_calls _ _ HSZ.out).mono ?_); rintro e w2 ⟨rfl, rfl⟩; rw [hr]))
                      refine (awake_calls _).mono ?_
                      rintro e wz ⟨rfl, hb⟩
                      have HBz := Aside0.mk (below_then HB.out HB.out.size hb)
                      clear hb
                      go_wp2
                      go_ret
                      exact ⟨rfl, HBz.out⟩
                    case false =>
                      have HLS := Aside0.mk (show (seqI off (i - off).toNat).length ≤ 90 ∧ seqI off (i - off).toNat ++ [i] = seqI off (i + 1 - off).toNat by
                        refine ⟨by rw [seqI_len]; have := HK.out; have := HOF.out; have := SF0.out.2.1; omega, ?_⟩
                        rw [show (i + 1 - off).toNat = (i - off).toNat + 1 by have := HK.out; omega, seqI_snoc]
                        congr 2
                        have := HK.out; omega)
                      have HG2 := Aside0.mk (show ∀ j : Int, off ≤ j → j < i + 1 → isGap (rdOf ByteArray.empty paper j) = false from fun j h1 h2 => by
                        by_cases e : j = i
                        · rw [e, HS.out]; exact hg
                        · exact HG.out j h1 (by omega))
                      obtain ⟨sq, hsq⟩ : ∃ sq, seqI off (i - off).toNat = sq := ⟨_, rfl⟩
                      rw [hsq] at HO HLS
                      clear hsq HG
                      go_wp2_with (first | (go_at_call 41; (with_reducible refine (Gap_calls _ _).mono ?_); rintro e w2 ⟨rfl, rfl⟩; rw [hg]) | (go_at_call 42; (with_reducible refine (rRemark_calls _ _ HSZ.out).mono ?_); rintro e w2 ⟨rfl, rfl⟩; rw [hr]) | ((with_reducible refine gate_builtin (b := .append) (xs := #[.tmp 155, .tmp 157]) rfl ?_); at_builtin; refine Kd.R_append (Kd.int .i64) (w0 := w) w.heap.size rfl (.tmp 155) (.tmp 157) 28 3 (.int .i64 0) 8 rfl Try.underlying28 info3 rfl (by decide) (by omega) u19 sq i [.int .i64 i] (fun _ => True) (fun _ => False) rfl rfl rfl (fun _ hk => hk.elim) (fun _ _ => trivial) HO.out HB.out (below_size HB.out) (by have := HLS.out; omega) ?_; intro v7 w7 ho hb hg hat; rw [HLS.out.2] at ho; have HO7 := Aside0.mk ho; have HB7 := Aside0.mk hb; clear ho hb hg hat))
                      go_roundg (gk - 1)
                      case measure => have := HK.out; have := HLT.out; omega
                      case rel => exact ⟨i + 1, by first | rfl | rw [HW.out], ⟨by have := HK.out; have := HLT.out; omega⟩, HO7, HG2, HB7⟩
                case neg =>
                  have t0 : decide (i < m) = false := decide_eq_false hlt
                  obtain rfl : i = m := by have := HK.out; omega
                  have hsp := span_fits (paper := paper) (kept := kept) (q := quotation) HOK.out off (i - off).toNat HOF.out.1 (by have := HOM.out; omega) (by have := HOF.out; have := HOM.out; omega) (fun j h1 h2 => HG.out j h1 (by have := HOM.out; omega))
                  rw [show off + (((i - off).toNat : Nat) : Int) = i by have := HOM.out; omega] at hsp
                  obtain ⟨A', L, HLL, hs1, hs2, hs3⟩ := Kd_mid A0 c0 paper off i w HOF.out.1 (by have := HOM.out; omega) HOF.out.2.2 HC0.out HR0.out
                  rw [← HLL.out] at hsp
                  have hll : L.length ≤ 1000000 := by have := SF0.out.1; omega
                  have ho := HO.out
                  obtain ⟨AW, cW, eW⟩ := Kd.R_slice ho
                  subst eW
                  have hcw := (Kd.R_reads' ho).2.2
                  obtain ⟨sq, hsq⟩ : ∃ sq, seqI off (i - off).toNat = sq := ⟨_, rfl⟩
                  have hsl : sq.length = (i - off).toNat := by rw [← hsq]; exact seqI_len _ _
                  rw [hsq] at hsp hcw ⊢
                  have HSP := Aside0.mk hsp
                  have HL2 := Aside0.mk hs2
                  have HLLN := Aside0.mk hll
                  have HCW := Aside0.mk hcw
                  have HSQ := Aside0.mk (show sq.length ≤ 1000000 by rw [hsl]; have := HOF.out; have := SF0.out.2.1; omega)
                  clear hlt hsp hs2 hs3 hll hcw hsq hsl ho HO HG
                  go_wp2
                  have HBd := Aside0.mk (below_drew1 HB.out)
                  have n_ := Aside0.mk (Kd.C_below HCW.out (below_drew (Below.refl _ _)))
                  clear HCW
                  have HCW := n_
                  clear n_
                  refine start_ (n := 15) (S := fun w' => True) (ds := []) #[false, false, false, false, false, false, false, false, false, false, false, false, false, false, false] (by kernel_rfl) rfl rfl trivial (fun hHeld => ?_)
                  generalize W1.drew = wd at HBd HCW ⊢
                  refine pure_ (i := 0) (N := some 159) (v := ?_) (a' := ?_) #[true, false, false, false, false, false, false, false, false, false, false, false, false, false, false] rfl rfl (by kernel_rfl) (fun _ _ _ h => h) (Or.inl ⟨by rfl, ?_⟩) ?_ ?_
                  rotate_left
                  · intro w'
                    go_simp
                    with_reducible rfl
                  rotate_left
                  · simp only [Act.put, List.setIfInBounds_toArray, List.set_cons_zero, List.set_cons_succ, i64_w, i32_w]
                    rfl
                  refine pure_ (i := 2) (N := some 161) (v := ?_) (a' := ?_) #[true, false, true, false, false, false, false, false, false, false, false, false, false, false, false] rfl rfl (by kernel_rfl) (fun _ _ _ h => h) (Or.inl ⟨by rfl, ?_⟩) ?_ ?_
                  rotate_left
                  · intro w'
                    go_simp
                    with_reducible rfl
                  rotate_left
                  · simp only [Act.put, List.setIfInBounds_toArray, List.set_cons_zero, List.set_cons_succ, i64_w, i32_w]
                    rfl
                  refine pure_ (i := 3) (N := some 162) (v := ?_) (a' := ?_) #[true, false, true, true, false, false, false, false, false, false, false, false, false, false, false] rfl rfl (by kernel_rfl) (fun _ _ _ h => h) (Or.inl ⟨by rfl, ?_⟩) ?_ ?_
                  rotate_left
                  · intro w'
                    go_simp
                    with_reducible rfl
                  rotate_left
                  · simp only [Act.put, List.setIfInBounds_toArray, List.set_cons_zero, List.set_cons_succ, i64_w, i32_w]
                    rfl
                  refine pure_ (i := 4) (N := some 163) (v := ?_) (a' := ?_) #[true, false, true, true, true, false, false, false, false, false, false, false, false, false, false] rfl rfl (by kernel_rfl) (fun _ _ _ h => h) (Or.inl ⟨by rfl, ?_⟩) ?_ ?_
                  rotate_left
                  · intro w'
                    go_simp
                    with_reducible rfl
                  rotate_left
                  · simp only [Act.put, List.setIfInBounds_toArray, List.set_cons_zero, List.set_cons_succ, i64_w, i32_w]
                    rfl
                  refine pure_ (i := 5) (N := some 164) (v := ?_) (a' := ?_) #[true, false, true, true, true, true, false, false, false, false, false, false, false, false, false] rfl rfl (by kernel_rfl) (fun _ _ _ h => h) (Or.inl ⟨by rfl, ?_⟩) ?_ ?_
                  rotate_left
                  · intro w'
                    go_simp
                    with_reducible rfl
                  rotate_left
                  · simp only [Act.put, List.setIfInBounds_toArray, List.set_cons_zero, List.set_cons_succ, i64_w, i32_w]
                    rfl
                  refine pure_ (i := 7) (N := some 166) (v := ?_) (a' := ?_) #[true, false, true, true, true, true, false, true, false, false, false, false, false, false, false] rfl rfl (by kernel_rfl) (fun _ _ _ h => h) (Or.inl ⟨by rfl, ?_⟩) ?_ ?_
                  rotate_left
                  · intro w'
                    go_simp
                    with_reducible rfl
                  rotate_left
                  · simp only [Act.put, List.setIfInBounds_toArray, List.set_cons_zero, List.set_cons_succ, i64_w, i32_w]
                    rfl
                  refine pure_ (i := 9) (N := some 168) (v := ?_) (a' := ?_) #[true, false, true, true, true, true, false, true, false, true, false, false, false, false, false] rfl rfl (by kernel_rfl) (fun _ _ _ h => h) (Or.inl ⟨by rfl, ?_⟩) ?_ ?_
                  rotate_left
                  · intro w'
                    go_simp
                    with_reducible rfl
                  rotate_left
                  · simp only [Act.put, List.setIfInBounds_toArray, List.set_cons_zero, List.set_cons_succ, i64_w, i32_w]
                    rfl
                  refine one_ (i := 1) (N := some 160) #[true, true, true, true, true, true, false, true, false, true, false, false, false, false, false] rfl rfl (by kernel_rfl) (by decide) (fun K hK => ?_)
                  refine goes_ Try.func36 (by kernel_rfl) rfl #[.slice A0 paper.length c0] (by rfl) rfl rfl (by simp only [List.map_toArray, List.map_cons, List.map_nil]; rfl) ?_
                  refine (list_calls A0 c0 paper _ (Kd.C_below HR0.out HBd.out) (Nat.le_trans SF0.out.1 (by decide))).mono ?_
                  rintro e w3 ⟨Bz0, dz0, rfl, hd, hx, hb⟩
                  refine ⟨_, rfl, ?_⟩
                  have HZ0 := Aside0.mk hx
                  have HD0 := Aside0.mk hd
                  clear hx hd
                  have n_ := Aside0.mk (below_then HBd.out HBd.out.size hb)
                  clear HBd
                  have HBd := n_
                  clear n_
                  have n_ := Aside0.mk (Kd.C_below HCW.out hb)
                  clear HCW
                  have HCW := n_
                  clear n_
                  clear hb
                  refine hK.out _ _ trivial (fun hHeld => ?_)
                  clear hK K
                  refine norm_ (a' := ?_) ?_ ?_
                  rotate_left
                  · show Act.put _ (some 160) _ = _
                    simp only [Act.put, List.setIfInBounds_toArray, List.set_cons_zero, List.set_cons_succ, i64_w, i32_w]
                    rfl
                  refine one_ (i := 6) (N := some 165) #[true, true, true, true, true, true, true, true, false, true, false, false, false, false, false] rfl rfl (by kernel_rfl) (by decide) (fun K hK => ?_)
                  refine goes_ Try.func36 (by kernel_rfl) rfl #[.slice A' L.length (c0 - off.toNat)] (by rfl) rfl rfl (by simp only [List.map_toArray, List.map_cons, List.map_nil]; rfl) ?_
                  refine (list_calls A' (c0 - off.toNat) L _ (Kd.C_below HL2.out HBd.out) (Nat.le_trans HLLN.out (by decide))).mono ?_
                  rintro e w3 ⟨Bz1, dz1, rfl, hd, hx, hb⟩
                  refine ⟨_, rfl, ?_⟩
                  have HZ1 := Aside0.mk hx
                  have HD1 := Aside0.mk hd
                  clear hx hd
                  have n_ := Aside0.mk (below_then HBd.out HBd.out.size hb)
                  clear HBd
                  have HBd := n_
                  clear n_
                  have n_ := Aside0.mk (Kd.C_below HCW.out hb)
                  clear HCW
                  have HCW := n_
                  clear n_
                  have n_ := Aside0.mk (Kd.C_below HZ0.out hb)
                  clear HZ0
                  have HZ0 := n_
                  clear n_
                  clear hb
                  refine hK.out _ _ trivial (fun hHeld => ?_)
                  clear hK K
                  refine norm_ (a' := ?_) ?_ ?_
                  rotate_left
                  · show Act.put _ (some 165) _ = _
                    simp only [Act.put, List.setIfInBounds_toArray, List.set_cons_zero, List.set_cons_succ, i64_w, i32_w]
                    rfl
                  refine one_ (i := 8) (N := some 167) #[true, true, true, true, true, true, true, true, true, true, false, false, false, false, false] rfl rfl (by kernel_rfl) (by decide) (fun K hK => ?_)
                  refine goes_ Try.func36 (by kernel_rfl) rfl #[.slice A2 kept.length c2] (by rfl) rfl rfl (by simp only [List.map_toArray, List.map_cons, List.map_nil]; rfl) ?_
                  refine (list_calls A2 c2 kept _ (Kd.C_below HR2.out HBd.out) (Nat.le_trans SF2.out.1 (by decide))).mono ?_
                  rintro e w3 ⟨Bz2, dz2, rfl, hd, hx, hb⟩
                  refine ⟨_, rfl, ?_⟩
                  have HZ2 := Aside0.mk hx
                  have HD2 := Aside0.mk hd
                  clear hx hd
                  have n_ := Aside0.mk (below_then HBd.out HBd.out.size hb)
                  clear HBd
                  have HBd := n_
                  clear n_
                  have n_ := Aside0.mk (Kd.C_below HCW.out hb)
                  clear HCW
                  have HCW := n_
                  clear n_
                  have n_ := Aside0.mk (Kd.C_below HZ0.out hb)
                  clear HZ0
                  have HZ0 := n_
                  clear n_
                  have n_ := Aside0.mk (Kd.C_below HZ1.out hb)
                  clear HZ1
                  have HZ1 := n_
                  clear n_
                  clear hb
                  refine hK.out _ _ trivial (fun hHeld => ?_)
                  clear hK K
                  refine norm_ (a' := ?_) ?_ ?_
                  rotate_left
                  · show Act.put _ (some 167) _ = _
                    simp only [Act.put, List.setIfInBounds_toArray, List.set_cons_zero, List.set_cons_succ, i64_w, i32_w]
                    rfl
                  refine one_ (i := 10) (N := some 169) #[true, true, true, true, true, true, true, true, true, true, true, false, false, false, false] rfl rfl (by kernel_rfl) (by decide) (fun K hK => ?_)
                  refine goes_ Try.func37 (by kernel_rfl) rfl #[.slice Bz0 paper.length dz0, .slice Bz1 L.length dz1, .slice Bz2 kept.length dz2, .slice AW sq.length cW] (by rfl) rfl rfl (by simp only [List.map_toArray, List.map_cons, List.map_nil]; rfl) ?_
                  refine (ProveQuote_calls Bz0 dz0 paper Bz1 dz1 L Bz2 dz2 kept AW cW sq _ HZ0.out HD0.out HZ1.out HZ2.out HCW.out HSQ.out).mono ?_
                  rintro e w3 ⟨rfl, hb⟩
                  rw [HSP.out]
                  refine ⟨_, rfl, ?_⟩
                  have n_ := Aside0.mk (below_then HBd.out HBd.out.size hb)
                  clear HBd
                  have HBd := n_
                  clear n_
                  clear hb
                  refine hK.out _ _ trivial (fun hHeld => ?_)
                  clear hK K
                  refine norm_ (a' := ?_) ?_ ?_
                  rotate_left
                  · show Act.put _ (some 169) _ = _
                    simp only [Act.put, List.setIfInBounds_toArray, List.set_cons_zero, List.set_cons_succ, i64_w, i32_w]
                    rfl
                  refine pure_ (i := 11) (N := some 170) (v := ?_) (a' := ?_) #[true, true, true, true, true, true, true, true, true, true, true, true, false, false, false] rfl rfl (by kernel_rfl) (fun _ _ _ h => h) (Or.inl ⟨by rfl, ?_⟩) ?_ ?_
                  rotate_left
                  · intro w'
                    go_simp
                    with_reducible rfl
                  rotate_left
                  · simp only [Act.put, List.setIfInBounds_toArray, List.set_cons_zero, List.set_cons_succ, i64_w, i32_w]
                    rfl
                  refine one_ (i := 12) (N := some 171) #[true, true, true, true, true, true, true, true, true, true, true, true, true, false, false] rfl rfl (by kernel_rfl) (by decide) (fun K hK => ?_)
                  refine goes_ Try.func18 (by kernel_rfl) rfl #[] (by rfl) rfl rfl (by simp only [List.map_toArray, List.map_cons, List.map_nil]) ?_
                  refine (awake_calls _).mono ?_
                  rintro e w3 ⟨rfl, hb⟩
                  refine ⟨_, rfl, ?_⟩
                  have n_ := Aside0.mk (below_then HBd.out HBd.out.size hb)
                  clear HBd
                  have HBd := n_
                  clear n_
                  clear hb
                  refine hK.out _ _ trivial (fun hHeld => ?_)
                  clear hK K
                  refine norm_ (a' := ?_) ?_ ?_
                  rotate_left
                  · show Act.put _ (some 171) _ = _
                    simp only [Act.put, List.setIfInBounds_toArray, List.set_cons_zero, List.set_cons_succ, i64_w, i32_w]
                    rfl
                  refine pure_ (i := 13) (N := some 172) (v := ?_) (a' := ?_) #[true, true, true, true, true, true, true, true, true, true, true, true, true, true, false] rfl rfl (by kernel_rfl) (fun _ _ _ h => h) (Or.inl ⟨by rfl, ?_⟩) ?_ ?_
                  rotate_left
                  · intro w'
                    go_simp
                    with_reducible rfl
                  rotate_left
                  · simp only [Act.put, List.setIfInBounds_toArray, List.set_cons_zero, List.set_cons_succ, i64_w, i32_w]
                    rfl
                  refine pure_ (i := 14) (N := some 12) (v := ?_) (a' := ?_) #[true, true, true, true, true, true, true, true, true, true, true, true, true, true, true] rfl rfl (by kernel_rfl) (fun _ _ _ h => h) (Or.inl ⟨by rfl, ?_⟩) ?_ ?_
                  rotate_left
                  · intro w'
                    go_simp
                    with_reducible rfl
                  rotate_left
                  · simp only [Act.put, List.setIfInBounds_toArray, List.set_cons_zero, List.set_cons_succ, i64_w, i32_w]
                    rfl
                  refine done_ (by kernel_rfl) ?_
                  go_wp2
                  go_ret
                  exact ⟨rfl, HBd.out⟩
            case inr =>
              have x1 : (a == c) = true := beq_iff_eq.mpr he.symm
              have HLX2 := Aside0.mk hlx
              clear he hlx
              go_wp2
              go_quiet (fail)
              go_wp2
              go_roundg (gk - 1)
              case measure => have := HK.out; have := HLT.out; omega
              case rel => exact ⟨i + 1, by first | rfl | rw [HW.out], ⟨by have := HK.out; have := HLT.out; omega⟩, HLX2, ⟨pw_below_drewN HBB2.out _⟩⟩
theorem OfficeQuoted_row (A0 : Option Addr) (c0 : Nat) (paper : List ByteArray) (A1 : Option Addr) (c1 : Nat) (quotation : List ByteArray) (A2 : Option Addr) (c2 : Nat) (kept : List ByteArray) (A3 : Option Addr) (c3 : Nat) (places : List Int) (from_ many : Int) (w : World) (H0 : SIn w A0 c0 paper) (H1 : SIn w A1 c1 quotation) (H2 : SIn w A2 c2 kept) (H3 : IIn w A3 c3 places) (hf : 0 ≤ from_ ∧ from_ ≤ 255) (hm : 0 ≤ many ∧ many ≤ 255) :
    Calls Try.prog 11 #[.slice A0 paper.length c0, .slice A1 quotation.length c1, .slice A2 kept.length c2, .slice A3 places.length c3, .int .u8 from_, .int .u8 many] w fun e w' => e = .returned (.bool true) ∧ Below w.heap.size w w' :=
  OfficeQuoted_calls A0 c0 paper A1 c1 quotation A2 c2 kept A3 c3 places from_ many w H0.1 H1.1 H2.1 H3.1 ⟨Nat.le_trans H0.2.2 (by decide), Nat.le_trans H1.2.2 (by decide), Nat.le_trans H2.2.2 (by decide)⟩ H0.2.1 hf hm
end Go.Proofs.Ythpheknchikodaa.P
