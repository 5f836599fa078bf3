/- Contracts of functions that the laws reach, part Xj3. Conditions: each theorem names its own. -/
import Derived.Test.YthpheknchikodaaXj2
import Derived.Test.YthpheknchikodaaXb13
/- The walk of the law OfficeStays: it answers true. Conditions: none beyond the lists' being readable. -/
namespace Go.Proofs.Ythpheknchikodaa.P
open Go.RowKit Go.Proofs.YthpheknchikodaaW.PrintWords Go.Proofs.YthpheknchikodaaW.PrintLast
set_option linter.unusedVariables false
set_option linter.unusedSimpArgs false

set_option maxHeartbeats 8000000 in
set_option maxRecDepth 100000 in
theorem OfficeStays_calls (A0 : Option Addr) (c0 : Nat) (paper : List ByteArray) (A1 : Option Addr) (c1 : Nat) (quotation : List ByteArray) (A2 : Option Addr) (c2 : Nat) (kept : List ByteArray) (more : ByteArray) (A3 : Option Addr) (c3 : Nat) (places : List Int) (w : World)
    (h0 : Kd.C Kd.string w A0 paper.length paper) (h1 : Kd.C Kd.string w A1 quotation.length quotation) (h2 : Kd.C Kd.string w A2 kept.length kept) (h3 : Kd.C (Kd.int .i64) w A3 places.length places) (hl : paper.length ≤ 8796093022208 ∧ quotation.length ≤ 8796093022208 ∧ kept.length ≤ 8796093022206) :
    Calls Try.prog 12 #[.slice A0 paper.length c0, .slice A1 quotation.length c1, .slice A2 kept.length c2, .string more, .slice A3 places.length c3] w fun e w' => e = .returned (.bool true) ∧ Below w.heap.size w w' := by
  have HR0 := Aside0.mk h0
  have HR1 := Aside0.mk h1
  have HR2 := Aside0.mk h2
  have HR3 := Aside0.mk h3
  have HL0 := Aside0.mk hl.1
  have HL1 := Aside0.mk hl.2.1
  have HL2 := Aside0.mk hl.2.2
  have HB0 := Aside0.mk (Below.refl w.heap.size w)
  clear h0 h1 h2 h3 hl
  go_enter Try.func12, Try.ntmps12
  go_wp2_with fail
  refine (listR_calls A2 c2 kept _ HR2.out (by have := HL2.out; omega)).mono ?_
  rintro e w1 ⟨v1, rfl, ho, hb⟩
  have HO1 := Aside0.mk ho
  have HB1 := Aside0.mk hb
  clear ho hb
  obtain ⟨W, hW⟩ : ∃ W, kept ++ [more] = W := ⟨_, rfl⟩
  have HW := Aside0.mk hW
  clear hW
  go_wp2_with ((with_reducible refine gate_builtin (b := .append) (xs := #[.tmp 18, .tmp 20]) rfl ?_); at_builtin; refine Kd.R_append Kd.string (w0 := w) w.heap.size rfl (.tmp 18) (.tmp 20) 73 9 (.string ⟨#[]⟩) 16 rfl Try.underlying73 info9 rfl (by decide) (by omega) v1 kept more [.string more] (fun _ => True) (fun _ => False) rfl rfl rfl (fun _ hk => hk.elim) (fun _ _ => trivial) HO1.out HB1.out (below_size HB1.out) (by have := HL2.out; omega) ?_; intro v2 w2 ho hb hg hat; rw [HW.out] at ho; obtain ⟨AW, cW, eW⟩ := Kd.R_slice ho; subst eW; have HRW := Aside0.mk (Kd.R_reads' ho).2.2; have HB2 := Aside0.mk hb; clear ho hb hg hat HO1 HB1)
  have HLW := Aside0.mk (show W.length ≤ 8796093022208 by have h := HL2.out; rw [← HW.out, List.length_append, List.length_singleton]; omega)
  cases sh0 : shortB paper
  case false =>
    refine (short_calls A0 c0 paper _ (Kd.C_below HR0.out HB2.out) HL0.out).mono ?_
    rintro e w_ ⟨rfl, rfl⟩
    rw [sh0]
    go_wp2_with fail
    refine (awake_calls _).mono ?_
    rintro e wz ⟨rfl, hb⟩
    have HBz := Aside0.mk (below_then HB2.out HB2.out.size hb)
    clear hb
    go_wp2
    go_ret
    exact ⟨rfl, HBz.out⟩
  have SF0 := Aside0.mk (short_facts sh0)
  refine (short_calls A0 c0 paper _ (Kd.C_below HR0.out HB2.out) HL0.out).mono ?_
  rintro e w_ ⟨rfl, rfl⟩
  rw [sh0]
  clear sh0
  go_wp2_with fail
  cases sh1 : shortB quotation
  case false =>
    refine (short_calls A1 c1 quotation _ (Kd.C_below HR1.out HB2.out) HL1.out).mono ?_
    rintro e w_ ⟨rfl, rfl⟩
    rw [sh1]
    go_wp2_with fail
    refine (awake_calls _).mono ?_
    rintro e wz ⟨rfl, hb⟩
    have HBz := Aside0.mk (below_then HB2.out HB2.out.size hb)
    clear hb
    go_wp2
    go_ret
    exact ⟨rfl, HBz.out⟩
  have SF1 := Aside0.mk (short_facts sh1)
  refine (short_calls A1 c1 quotation _ (Kd.C_below HR1.out HB2.out) HL1.out).mono ?_
  rintro e w_ ⟨rfl, rfl⟩
  rw [sh1]
  clear sh1
  go_wp2_with fail
  cases sh5 : shortB W
  case false =>
    refine (short_calls AW cW W _ HRW.out HLW.out).mono ?_
    rintro e w_ ⟨rfl, rfl⟩
    rw [sh5]
    go_wp2_with fail
    refine (awake_calls _).mono ?_
    rintro e wz ⟨rfl, hb⟩
    have HBz := Aside0.mk (below_then HB2.out HB2.out.size hb)
    clear hb
    go_wp2
    go_ret
    exact ⟨rfl, HBz.out⟩
  have SF5 := Aside0.mk (short_facts sh5)
  refine (short_calls AW cW W _ HRW.out HLW.out).mono ?_
  rintro e w_ ⟨rfl, rfl⟩
  rw [sh5]
  clear sh5
  have SF2 := Aside0.mk (show kept.length ≤ 1000000 ∧ kept.length ≤ 90 ∧ ∀ s ∈ kept, s.size ≤ 1000000 from ⟨by have h := SF5.out.1; rw [← HW.out, List.length_append] at h; omega, by have h := SF5.out.2.1; rw [← HW.out, List.length_append] at h; omega, fun s hs => SF5.out.2.2 s (by rw [← HW.out]; exact List.mem_append_left _ hs)⟩)
  by_cases hpl : places.length ≤ 90
  case neg =>
    have e1 : decide ((90 : Int) < (places.length : Int)) = true := decide_eq_true (by omega)
    clear hpl
    go_wp2_with fail
    refine (awake_calls _).mono ?_
    rintro e wz ⟨rfl, hb⟩
    have HBz := Aside0.mk (below_then HB2.out HB2.out.size hb)
    clear hb
    go_wp2
    go_ret
    exact ⟨rfl, HBz.out⟩
  have e1 : decide ((90 : Int) < (places.length : Int)) = false := decide_eq_false (by omega)
  have HPL := Aside0.mk hpl
  clear hpl
  go_wp2_with fail
  clear e1
  cases rk : rightQB paper quotation kept
  case false =>
    refine (RightQuote_calls A0 c0 paper A1 c1 quotation A2 c2 kept _ (Kd.C_below HR0.out HB2.out) (Kd.C_below HR1.out HB2.out) (Kd.C_below HR2.out HB2.out) SF0.out.1 SF1.out.1 SF2.out.1 SF0.out.2.2 SF1.out.2.2 SF2.out.2.2).mono ?_
    rintro e w3 ⟨rfl, hb⟩
    rw [rk]
    have n_ := Aside0.mk (Kd.C_below HRW.out hb)
    clear HRW
    have HRW := n_
    clear n_
    have HB3 := Aside0.mk (below_then HB2.out HB2.out.size hb)
    clear hb
    go_wp2_with fail
    refine (awake_calls _).mono ?_
    rintro e wz ⟨rfl, hb⟩
    have HBz := Aside0.mk (below_then HB3.out HB3.out.size hb)
    clear hb
    go_wp2
    go_ret
    exact ⟨rfl, HBz.out⟩
  have HRK := Aside0.mk rk
  refine (RightQuote_calls A0 c0 paper A1 c1 quotation A2 c2 kept _ (Kd.C_below HR0.out HB2.out) (Kd.C_below HR1.out HB2.out) (Kd.C_below HR2.out HB2.out) SF0.out.1 SF1.out.1 SF2.out.1 SF0.out.2.2 SF1.out.2.2 SF2.out.2.2).mono ?_
  rintro e w3 ⟨rfl, hb⟩
  rw [rk]
  have n_ := Aside0.mk (Kd.C_below HRW.out hb)
  clear HRW
  have HRW := n_
  clear n_
  have HB3 := Aside0.mk (below_then HB2.out HB2.out.size hb)
  clear hb
  clear rk
  go_wp2_with fail
  cases rw_ : rightQB paper quotation W
  case false =>
    refine (RightQuote_calls A0 c0 paper A1 c1 quotation AW cW W _ (Kd.C_below HR0.out HB3.out) (Kd.C_below HR1.out HB3.out) HRW.out SF0.out.1 SF1.out.1 SF5.out.1 SF0.out.2.2 SF1.out.2.2 SF5.out.2.2).mono ?_
    rintro e w4 ⟨rfl, hb⟩
    rw [rw_]
    have n_ := Aside0.mk (Kd.C_below HRW.out hb)
    clear HRW
    have HRW := n_
    clear n_
    have HB4 := Aside0.mk (below_then HB3.out HB3.out.size hb)
    clear hb
    go_wp2_with fail
    refine (awake_calls _).mono ?_
    rintro e wz ⟨rfl, hb⟩
    have HBz := Aside0.mk (below_then HB4.out HB4.out.size hb)
    clear hb
    go_wp2
    go_ret
    exact ⟨rfl, HBz.out⟩
  have HRWT := Aside0.mk rw_
  refine (RightQuote_calls A0 c0 paper A1 c1 quotation AW cW W _ (Kd.C_below HR0.out HB3.out) (Kd.C_below HR1.out HB3.out) HRW.out SF0.out.1 SF1.out.1 SF5.out.1 SF0.out.2.2 SF1.out.2.2 SF5.out.2.2).mono ?_
  rintro e w4 ⟨rfl, hb⟩
  rw [rw_]
  have n_ := Aside0.mk (Kd.C_below HRW.out hb)
  clear HRW
  have HRW := n_
  clear n_
  have HB4 := Aside0.mk (below_then HB3.out HB3.out.size hb)
  clear hb
  clear rw_
  go_wp2_with fail
  obtain ⟨pw, hpw⟩ : ∃ pw, proveQB paper quotation W places = pw := ⟨_, rfl⟩
  have HPW := Aside0.mk hpw
  clear hpw
  refine (list_calls A0 c0 paper _ (Kd.C_below HR0.out HB4.out) (Nat.le_trans SF0.out.1 (by decide))).mono ?_
  rintro e w5 ⟨Bx0, dx0, rfl, hd, hx, hb⟩
  have HXx0 := Aside0.mk hx
  have HDx0 := Aside0.mk hd
  clear hx hd
  have n_ := Aside0.mk (Kd.C_below HRW.out hb)
  clear HRW
  have HRW := n_
  clear n_
  have HB5 := Aside0.mk (below_then HB4.out HB4.out.size hb)
  clear hb
  go_wp2_with fail
  refine (list_calls A1 c1 quotation _ (Kd.C_below HR1.out HB5.out) (Nat.le_trans SF1.out.1 (by decide))).mono ?_
  rintro e w6 ⟨Bx1, dx1, rfl, hd, hx, hb⟩
  have HXx1 := Aside0.mk hx
  have HDx1 := Aside0.mk hd
  clear hx hd
  have n_ := Aside0.mk (Kd.C_below HXx0.out hb)
  clear HXx0
  have HXx0 := n_
  clear n_
  have n_ := Aside0.mk (Kd.C_below HRW.out hb)
  clear HRW
  have HRW := n_
  clear n_
  have HB6 := Aside0.mk (below_then HB5.out HB5.out.size hb)
  clear hb
  go_wp2_with fail
  refine (list_calls AW cW W _ HRW.out (Nat.le_trans SF5.out.1 (by decide))).mono ?_
  rintro e w7 ⟨Bx5, dx5, rfl, hd, hx, hb⟩
  have HXx5 := Aside0.mk hx
  have HDx5 := Aside0.mk hd
  clear hx hd
  have n_ := Aside0.mk (Kd.C_below HXx0.out hb)
  clear HXx0
  have HXx0 := n_
  clear n_
  have n_ := Aside0.mk (Kd.C_below HXx1.out hb)
  clear HXx1
  have HXx1 := n_
  clear n_
  have n_ := Aside0.mk (Kd.C_below HRW.out hb)
  clear HRW
  have HRW := n_
  clear n_
  have HB7 := Aside0.mk (below_then HB6.out HB6.out.size hb)
  clear hb
  go_wp2_with ((with_reducible refine gate_builtin (b := .append) (xs := #[.const (.slice none 0 0), .tmp 61]) rfl ?_); at_builtin; refine Kd.R_append_rows (Kd.int .i64) (w0 := w7) w7.heap.size rfl (.const (.slice none 0 0)) (.tmp 61) 28 3 (.int .i64 0) 8 rfl Try.underlying28 info3 rfl (by decide) (by omega) (.slice none 0 0) [] places _ _ _ (fun _ => True) (fun _ => False) rfl rfl (Kd.R_nil _ _ _ _ _) (Kd.C_below HR3.out HB7.out) (fun _ _ h => h) (fun _ h => h.elim) (fun _ _ => trivial) (Below.refl _ _) (Nat.le_refl _) (by have := HPL.out; simp; omega) ?_; intro v6 w8 ho hb hg hat; rw [List.nil_append] at ho; obtain ⟨APP, cPP, e6⟩ := Kd.R_slice ho; subst e6; have HPP := Aside0.mk (Kd.R_reads' ho).2.2; clear ho hg hat)
  have n_ := Aside0.mk (Kd.C_below HXx0.out hb)
  clear HXx0
  have HXx0 := n_
  clear n_
  have n_ := Aside0.mk (Kd.C_below HXx1.out hb)
  clear HXx1
  have HXx1 := n_
  clear n_
  have n_ := Aside0.mk (Kd.C_below HXx5.out hb)
  clear HXx5
  have HXx5 := n_
  clear n_
  have n_ := Aside0.mk (Kd.C_below HRW.out hb)
  clear HRW
  have HRW := n_
  clear n_
  have HB8 := Aside0.mk (below_then HB7.out HB7.out.size hb)
  clear hb
  refine (ProveQuote_calls Bx0 dx0 paper Bx1 dx1 quotation Bx5 dx5 W APP cPP places _ HXx0.out HDx0.out HXx1.out HXx5.out HPP.out (by have := HPL.out; omega)).mono ?_
  rintro e w9 ⟨rfl, hb⟩
  rw [HPW.out]
  clear HXx0 HXx1 HXx5 HPP
  have n_ := Aside0.mk (Kd.C_below HRW.out hb)
  clear HRW
  have HRW := n_
  clear n_
  have HB9 := Aside0.mk (below_then HB8.out HB8.out.size hb)
  clear hb
  cases pw with
  | false =>
    clear HPW
    go_wp2_with fail
    obtain ⟨r, hr⟩ : ∃ r, qSpec paper quotation kept = r := ⟨_, rfl⟩
    have HQ := Aside0.mk hr
    clear hr
    obtain ⟨r2, hr2⟩ : ∃ r2, qSpec paper quotation W = r2 := ⟨_, rfl⟩
    have HQ2 := Aside0.mk hr2
    clear hr2
    refine (list_calls A0 c0 paper _ (Kd.C_below HR0.out HB9.out) (Nat.le_trans SF0.out.1 (by decide))).mono ?_
    rintro e w10 ⟨By0, dy0, rfl, hd, hx, hb⟩
    have HXy0 := Aside0.mk hx
    have HDy0 := Aside0.mk hd
    clear hx hd
    have n_ := Aside0.mk (Kd.C_below HRW.out hb)
    clear HRW
    have HRW := n_
    clear n_
    have HB10 := Aside0.mk (below_then HB9.out HB9.out.size hb)
    clear hb
    go_wp2_with fail
    refine (list_calls A1 c1 quotation _ (Kd.C_below HR1.out HB10.out) (Nat.le_trans SF1.out.1 (by decide))).mono ?_
    rintro e w11 ⟨By1, dy1, rfl, hd, hx, hb⟩
    have HXy1 := Aside0.mk hx
    have HDy1 := Aside0.mk hd
    clear hx hd
    have n_ := Aside0.mk (Kd.C_below HXy0.out hb)
    clear HXy0
    have HXy0 := n_
    clear n_
    have n_ := Aside0.mk (Kd.C_below HRW.out hb)
    clear HRW
    have HRW := n_
    clear n_
    have HB11 := Aside0.mk (below_then HB10.out HB10.out.size hb)
    clear hb
    go_wp2_with fail
    refine (list_calls A2 c2 kept _ (Kd.C_below HR2.out HB11.out) (Nat.le_trans SF2.out.1 (by decide))).mono ?_
    rintro e w12 ⟨By2, dy2, rfl, hd, hx, hb⟩
    have HXy2 := Aside0.mk hx
    have HDy2 := Aside0.mk hd
    clear hx hd
    have n_ := Aside0.mk (Kd.C_below HXy0.out hb)
    clear HXy0
    have HXy0 := n_
    clear n_
    have n_ := Aside0.mk (Kd.C_below HXy1.out hb)
    clear HXy1
    have HXy1 := n_
    clear n_
    have n_ := Aside0.mk (Kd.C_below HRW.out hb)
    clear HRW
    have HRW := n_
    clear n_
    have HB12 := Aside0.mk (below_then HB11.out HB11.out.size hb)
    clear hb
    go_wp2_with fail
    refine (pQuote_calls By0 dy0 paper By1 dy1 quotation By2 dy2 kept r HQ.out _ HXy0.out HDy0.out HXy1.out HDy1.out HXy2.out HDy2.out).mono ?_
    rintro e w13 ⟨AL, cL, rfl, hd, hx, hb⟩
    have HXL := Aside0.mk hx
    clear hx hd HXy0 HXy1 HXy2
    have n_ := Aside0.mk (Kd.C_below HRW.out hb)
    clear HRW
    have HRW := n_
    clear n_
    have HB13 := Aside0.mk (below_then HB12.out HB12.out.size hb)
    clear hb
    go_wp2_with fail
    refine (list_calls A0 c0 paper _ (Kd.C_below HR0.out HB13.out) (Nat.le_trans SF0.out.1 (by decide))).mono ?_
    rintro e w14 ⟨Bz0, dz0, rfl, hd, hx, hb⟩
    have HXz0 := Aside0.mk hx
    have HDz0 := Aside0.mk hd
    clear hx hd
    have n_ := Aside0.mk (Kd.C_below HRW.out hb)
    clear HRW
    have HRW := n_
    clear n_
    have n_ := Aside0.mk (Kd.C_below HXL.out hb)
    clear HXL
    have HXL := n_
    clear n_
    have HB14 := Aside0.mk (below_then HB13.out HB13.out.size hb)
    clear hb
    go_wp2_with fail
    refine (list_calls A1 c1 quotation _ (Kd.C_below HR1.out HB14.out) (Nat.le_trans SF1.out.1 (by decide))).mono ?_
    rintro e w15 ⟨Bz1, dz1, rfl, hd, hx, hb⟩
    have HXz1 := Aside0.mk hx
    have HDz1 := Aside0.mk hd
    clear hx hd
    have n_ := Aside0.mk (Kd.C_below HXz0.out hb)
    clear HXz0
    have HXz0 := n_
    clear n_
    have n_ := Aside0.mk (Kd.C_below HRW.out hb)
    clear HRW
    have HRW := n_
    clear n_
    have n_ := Aside0.mk (Kd.C_below HXL.out hb)
    clear HXL
    have HXL := n_
    clear n_
    have HB15 := Aside0.mk (below_then HB14.out HB14.out.size hb)
    clear hb
    go_wp2_with fail
    refine (list_calls AW cW W _ HRW.out (Nat.le_trans SF5.out.1 (by decide))).mono ?_
    rintro e w16 ⟨Bz5, dz5, rfl, hd, hx, hb⟩
    have HXz5 := Aside0.mk hx
    have HDz5 := Aside0.mk hd
    clear hx hd
    have n_ := Aside0.mk (Kd.C_below HXz0.out hb)
    clear HXz0
    have HXz0 := n_
    clear n_
    have n_ := Aside0.mk (Kd.C_below HXz1.out hb)
    clear HXz1
    have HXz1 := n_
    clear n_
    have n_ := Aside0.mk (Kd.C_below HRW.out hb)
    clear HRW
    have HRW := n_
    clear n_
    have n_ := Aside0.mk (Kd.C_below HXL.out hb)
    clear HXL
    have HXL := n_
    clear n_
    have HB16 := Aside0.mk (below_then HB15.out HB15.out.size hb)
    clear hb
    go_wp2_with fail
    refine (pQuote_calls Bz0 dz0 paper Bz1 dz1 quotation Bz5 dz5 W r2 HQ2.out _ HXz0.out HDz0.out HXz1.out HDz1.out HXz5.out HDz5.out).mono ?_
    rintro e w17 ⟨AM, cM, rfl, hd, hx, hb⟩
    have HXM := Aside0.mk hx
    clear hx hd HXz0 HXz1 HXz5
    have n_ := Aside0.mk (Kd.C_below HXL.out hb)
    clear HXL
    have HXL := n_
    clear n_
    have HB17 := Aside0.mk (below_then HB16.out HB16.out.size hb)
    clear hb
    have hq := HQ.out
    have hq2 := HQ2.out
    unfold qSpec at hq hq2
    rw [HRK.out, if_pos rfl] at hq
    rw [HRWT.out, if_pos rfl] at hq2
    obtain ⟨F, hF⟩ : ∃ F, findP paper kept (piecesOf quotation) (piecesOf quotation).length (-1) = F := ⟨_, rfl⟩
    rw [hF] at hq
    have HF := Aside0.mk hF
    obtain ⟨F2, hF2⟩ : ∃ F2, findP paper W (piecesOf quotation) (piecesOf quotation).length (-1) = F2 := ⟨_, rfl⟩
    rw [hF2] at hq2
    have HF2 := Aside0.mk hF2
    clear hF hF2 HQ HQ2
    cases F2 with
    | none =>
      obtain rfl : r2 = ([], 7) := hq2.symm
      simp only [List.length_nil]
      clear hq2
      cases F with
      | none =>
        obtain rfl : r = ([], 7) := hq.symm
        simp only [List.length_nil]
        clear hq
        go_wp2_with fail
        refine (awake_calls _).mono ?_
        rintro e wz ⟨rfl, hb⟩
        have HBz := Aside0.mk (below_then HB17.out HB17.out.size hb)
        clear hb
        go_wp2
        go_ret
        exact ⟨rfl, HBz.out⟩
      | some l =>
        obtain rfl : r = (l, 0) := hq.symm
        simp only
        clear hq
        go_wp2_with fail
        refine (awake_calls _).mono ?_
        rintro e wz ⟨rfl, hb⟩
        have HBz := Aside0.mk (below_then HB17.out HB17.out.size hb)
        clear hb
        go_wp2
        go_ret
        exact ⟨rfl, HBz.out⟩
    | some m =>
      obtain rfl : r2 = (m, 0) := hq2.symm
      obtain ⟨-, hpm, hmn, -⟩ := found_fits HRWT.out HF2.out
      rw [← HW.out] at hpm
      obtain ⟨l, hl, hlx, hll⟩ := found_least (prove_kept HRK.out hpm)
      rw [HF.out] at hl
      subst hl
      obtain rfl : r = (l, 0) := hq.symm
      simp only at HXL HXM ⊢
      have HLL := Aside0.mk hll
      have HMN := Aside0.mk hmn
      have e1 : ((l.length : Int) != (m.length : Int)) = false := bne_eq_false_iff_eq.mpr (by omega)
      have HLX := Aside0.mk (show Lex (l.drop (0 : Int).toNat) (m.drop (0 : Int).toNat) from hlx)
      clear hq hq2 hpm hmn hlx hll HF HF2
      go_wp2_with fail
      clear e1
      go_loopg [16] l.length (fun kq v16 w' => ∃ i : Int, v16 = .int .i64 i ∧ Aside0 (0 ≤ i ∧ kq + i.toNat = l.length) ∧ Aside0 (Lex (l.drop i.toNat) (m.drop i.toNat)) ∧ Aside0 (Below w17.heap.size w17 w'))
      case atStart => exact ⟨0, rfl, ⟨by simp⟩, HLX, ⟨Below.refl _ _⟩⟩
      case round =>
        clear HLX
        obtain ⟨i, rfl, HK, HLX, HBB2⟩ := hrel
        rename World => W1
        have HB18 := Aside0.mk (below_then HB17.out HB17.out.size HBB2.out)
        by_cases hlt : i < (l.length : Int)
        case neg =>
          have t0 : decide (i < (l.length : Int)) = false := decide_eq_false hlt
          clear hlt
          go_wp2_with fail
          refine (awake_calls _).mono ?_
          rintro e wz ⟨rfl, hb⟩
          have HBz := Aside0.mk (below_then HB18.out HB18.out.size hb)
          clear hb
          go_wp2
          go_ret
          exact ⟨rfl, HBz.out⟩
        case pos =>
          have t0 : decide (i < (l.length : Int)) = true := decide_eq_true hlt
          have i0 : 0 ≤ i := HK.out.1
          have him : i < (m.length : Int) := by have := HLL.out; omega
          obtain ⟨pa, hA, g1⟩ := Kd.at_int (Kd.C_below HXL.out HBB2.out) i i0 hlt
          obtain ⟨pm, hA2, g2⟩ := Kd.at_int (Kd.C_below HXM.out HBB2.out) i i0 him
          have he := HLX.out
          rw [drop_int l i i0 hlt, drop_int m i i0 him, Lex] at he
          obtain ⟨a, ha⟩ : ∃ a, rd l i = a := ⟨_, rfl⟩
          obtain ⟨c, hc⟩ : ∃ c, rd m i = c := ⟨_, rfl⟩
          rw [ha] at g1 he
          rw [hc] at g2 he
          cases hA
          cases hA2
          have HLT := Aside0.mk hlt
          have HWI := Aside0.mk (show wrap64 (i + 1) = i + 1 by unfold wrap64; have := HK.out; have := HMN.out; have := HLL.out; omega)
          replace i0 := eq_true i0
          replace him := eq_true him
          replace hlt := eq_true hlt
          clear ha hc
          rcases he with he | ⟨he, hlx⟩
          case inl =>
            have x1 : (a != c) = true := bne_iff_ne.mpr (by omega)
            have x2 : decide (a < c) = true := decide_eq_true (by omega)
            clear he
            go_wp2
            go_quiet (fail)
            go_wp2
            refine start_ (n := 13) (S := fun w' => w'.cell? (pa.add i.toNat) = some (.int .i64 a) ∧ w'.cell? (pm.add i.toNat) = some (.int .i64 c)) (ds := []) #[false, false, false, false, false, false, false, false, false, false, false, false, false] (by kernel_rfl) rfl rfl ⟨g1, g2⟩ (fun hHeld => ?_)
            generalize hWd : (World.drewN W1 _).drew = wd at hHeld ⊢
            have HBd := Aside0.mk (show Below w.heap.size w wd by rw [← hWd]; exact below_drew (pw_below_drewN HB18.out _))
            clear hWd
            refine pure_ (i := 0) (N := some 135) (v := ?_) (a' := ?_) #[true, false, false, false, false, false, false, false, false, false, false, false, false] rfl rfl (by kernel_rfl) (fun _ _ _ h => h) (Or.inl ⟨by rfl, ?_⟩) ?_ ?_
            rotate_left
            · intro w'
              go_simp
              with_reducible rfl
            rotate_left
            · simp only [Act.put, List.setIfInBounds_toArray, List.set_cons_zero, List.set_cons_succ, i64_w, i32_w]
              rfl
            refine pure_ (i := 1) (N := some 136) (v := ?_) (a' := ?_) #[true, true, false, false, false, false, false, false, false, false, false, false, false] rfl rfl (by kernel_rfl) (fun _ _ _ h => h) (Or.inl ⟨by rfl, ?_⟩) ?_ ?_
            rotate_left
            · intro w'
              go_simp
              with_reducible rfl
            rotate_left
            · simp only [Act.put, List.setIfInBounds_toArray, List.set_cons_zero, List.set_cons_succ, i64_w, i32_w]
              rfl
            refine pure_ (i := 2) (N := some 137) (v := ?_) (a' := ?_) #[true, true, true, false, false, false, false, false, false, false, false, false, false] rfl rfl (by kernel_rfl) (fun _ _ _ h => h) (Or.inl ⟨by rfl, ?_⟩) ?_ ?_
            rotate_left
            · intro w'
              go_simp
              with_reducible rfl
            rotate_left
            · simp only [Act.put, List.setIfInBounds_toArray, List.set_cons_zero, List.set_cons_succ, i64_w, i32_w]
              rfl
            refine pure_ (i := 4) (N := some 139) (v := ?_) (a' := ?_) #[true, true, true, false, true, false, false, false, false, false, false, false, false] rfl rfl (by kernel_rfl) (fun _ _ _ h => h) (Or.inl ⟨by rfl, ?_⟩) ?_ ?_
            rotate_left
            · intro w'
              go_simp
              with_reducible rfl
            rotate_left
            · simp only [Act.put, List.setIfInBounds_toArray, List.set_cons_zero, List.set_cons_succ, i64_w, i32_w]
              rfl
            refine pure_ (i := 5) (N := some 140) (v := ?_) (a' := ?_) #[true, true, true, false, true, true, false, false, false, false, false, false, false] rfl rfl (by kernel_rfl) (fun _ _ _ h => h) (Or.inl ⟨by rfl, ?_⟩) ?_ ?_
            rotate_left
            · intro w'
              go_simp
              with_reducible rfl
            rotate_left
            · simp only [Act.put, List.setIfInBounds_toArray, List.set_cons_zero, List.set_cons_succ, i64_w, i32_w]
              rfl
            refine pure_ (i := 6) (N := some 141) (v := ?_) (a' := ?_) #[true, true, true, false, true, true, true, false, false, false, false, false, false] rfl rfl (by kernel_rfl) (fun _ _ _ h => h) (Or.inl ⟨by rfl, ?_⟩) ?_ ?_
            rotate_left
            · intro w'
              go_simp
              with_reducible rfl
            rotate_left
            · simp only [Act.put, List.setIfInBounds_toArray, List.set_cons_zero, List.set_cons_succ, i64_w, i32_w]
              rfl
            refine take_ (i := 3) (N := some 138) (v := ?_) (a' := ?_) #[true, true, true, true, true, true, true, false, false, false, false, false, false] rfl rfl (by kernel_rfl) (fun _ _ _ h => h) (Or.inl ⟨by rfl, ?_⟩) hHeld ?_ ?_
            rotate_left
            · rintro w' ⟨s0, s1⟩
              go_simp
              with_reducible rfl
            rotate_left
            · simp only [Act.put, List.setIfInBounds_toArray, List.set_cons_zero, List.set_cons_succ, i64_w, i32_w]
              rfl
            refine take_ (i := 7) (N := some 142) (v := ?_) (a' := ?_) #[true, true, true, true, true, true, true, true, false, false, false, false, false] rfl rfl (by kernel_rfl) (fun _ _ _ h => h) (Or.inl ⟨by rfl, ?_⟩) hHeld ?_ ?_
            rotate_left
            · rintro w' ⟨s0, s1⟩
              go_simp
              with_reducible rfl
            rotate_left
            · simp only [Act.put, List.setIfInBounds_toArray, List.set_cons_zero, List.set_cons_succ, i64_w, i32_w]
              rfl
            refine pure_ (i := 8) (N := some 143) (v := ?_) (a' := ?_) #[true, true, true, true, true, true, true, true, true, false, false, false, false] rfl rfl (by kernel_rfl) (fun _ _ _ h => h) (Or.inl ⟨by rfl, ?_⟩) ?_ ?_
            rotate_left
            · intro w'
              go_simp
              with_reducible rfl
            rotate_left
            · simp only [Act.put, List.setIfInBounds_toArray, List.set_cons_zero, List.set_cons_succ, i64_w, i32_w]
              rfl
            refine pure_ (i := 9) (N := some 144) (v := ?_) (a' := ?_) #[true, true, true, true, true, true, true, true, true, true, false, false, false] rfl rfl (by kernel_rfl) (fun _ _ _ h => h) (Or.inl ⟨by rfl, ?_⟩) ?_ ?_
            rotate_left
            · intro w'
              go_simp
              with_reducible rfl
            rotate_left
            · simp only [Act.put, List.setIfInBounds_toArray, List.set_cons_zero, List.set_cons_succ, i64_w, i32_w]
              rfl
            refine one_ (i := 10) (N := some 145) #[true, true, true, true, true, true, true, true, true, true, true, false, false] rfl rfl (by kernel_rfl) (by decide) (fun K hK => ?_)
            refine goes_ Try.func18 (by kernel_rfl) rfl #[] (by rfl) rfl rfl (by simp only [List.map_toArray, List.map_cons, List.map_nil]) ?_
            refine (awake_calls _).mono ?_
            rintro e w3 ⟨rfl, hb⟩
            refine ⟨_, rfl, ?_⟩
            have n_ := Aside0.mk (below_then HBd.out HBd.out.size hb)
            clear HBd
            have HBd := n_
            clear n_
            refine hK.out _ _ ⟨pw_cell_below hb hHeld.1, pw_cell_below hb hHeld.2⟩ (fun hHeld => ?_)
            clear hK K
            refine norm_ (a' := ?_) ?_ ?_
            rotate_left
            · show Act.put _ (some 145) _ = _
              simp only [Act.put, List.setIfInBounds_toArray, List.set_cons_zero, List.set_cons_succ, i64_w, i32_w]
              rfl
            refine pure_ (i := 11) (N := some 146) (v := ?_) (a' := ?_) #[true, true, true, true, true, true, true, true, true, true, true, true, false] rfl rfl (by kernel_rfl) (fun _ _ _ h => h) (Or.inl ⟨by rfl, ?_⟩) ?_ ?_
            rotate_left
            · intro w'
              go_simp
              with_reducible rfl
            rotate_left
            · simp only [Act.put, List.setIfInBounds_toArray, List.set_cons_zero, List.set_cons_succ, i64_w, i32_w]
              rfl
            refine pure_ (i := 12) (N := some 10) (v := ?_) (a' := ?_) #[true, true, true, true, true, true, true, true, true, true, true, true, true] rfl rfl (by kernel_rfl) (fun _ _ _ h => h) (Or.inl ⟨by rfl, ?_⟩) ?_ ?_
            rotate_left
            · intro w'
              go_simp
              with_reducible rfl
            rotate_left
            · simp only [Act.put, List.setIfInBounds_toArray, List.set_cons_zero, List.set_cons_succ, i64_w, i32_w]
              rfl
            refine done_ (by kernel_rfl) ?_
            go_wp2
            go_ret
            exact ⟨rfl, HBd.out⟩
          case inr =>
            have x1 : (a != c) = false := bne_eq_false_iff_eq.mpr he
            have HLX2 := Aside0.mk hlx
            clear he hlx
            go_wp2
            go_quiet (fail)
            go_wp2
            go_roundg (gk - 1)
            case measure => have := HK.out; have := HLT.out; omega
            case rel => exact ⟨i + 1, by first | rfl | rw [HWI.out], ⟨by have := HK.out; have := HLT.out; omega⟩, HLX2, ⟨pw_below_drewN HBB2.out _⟩⟩
  | true =>
    have HPK := Aside0.mk (show proveQB paper quotation kept places = true from prove_kept HRK.out (by rw [HW.out]; exact HPW.out))
    clear HPW
    go_wp2_with fail
    refine (list_calls A0 c0 paper _ (Kd.C_below HR0.out HB9.out) (Nat.le_trans SF0.out.1 (by decide))).mono ?_
    rintro e w10 ⟨Bu0, du0, rfl, hd, hx, hb⟩
    have HXu0 := Aside0.mk hx
    have HDu0 := Aside0.mk hd
    clear hx hd
    have n_ := Aside0.mk (Kd.C_below HRW.out hb)
    clear HRW
    have HRW := n_
    clear n_
    have HB10 := Aside0.mk (below_then HB9.out HB9.out.size hb)
    clear hb
    go_wp2_with fail
    refine (list_calls A1 c1 quotation _ (Kd.C_below HR1.out HB10.out) (Nat.le_trans SF1.out.1 (by decide))).mono ?_
    rintro e w11 ⟨Bu1, du1, rfl, hd, hx, hb⟩
    have HXu1 := Aside0.mk hx
    have HDu1 := Aside0.mk hd
    clear hx hd
    have n_ := Aside0.mk (Kd.C_below HXu0.out hb)
    clear HXu0
    have HXu0 := n_
    clear n_
    have n_ := Aside0.mk (Kd.C_below HRW.out hb)
    clear HRW
    have HRW := n_
    clear n_
    have HB11 := Aside0.mk (below_then HB10.out HB10.out.size hb)
    clear hb
    go_wp2_with fail
    refine (list_calls A2 c2 kept _ (Kd.C_below HR2.out HB11.out) (Nat.le_trans SF2.out.1 (by decide))).mono ?_
    rintro e w12 ⟨Bu2, du2, rfl, hd, hx, hb⟩
    have HXu2 := Aside0.mk hx
    have HDu2 := Aside0.mk hd
    clear hx hd
    have n_ := Aside0.mk (Kd.C_below HXu0.out hb)
    clear HXu0
    have HXu0 := n_
    clear n_
    have n_ := Aside0.mk (Kd.C_below HXu1.out hb)
    clear HXu1
    have HXu1 := n_
    clear n_
    have n_ := Aside0.mk (Kd.C_below HRW.out hb)
    clear HRW
    have HRW := n_
    clear n_
    have HB12 := Aside0.mk (below_then HB11.out HB11.out.size hb)
    clear hb
    go_wp2_with ((with_reducible refine gate_builtin (b := .append) (xs := #[.const (.slice none 0 0), .tmp 71]) rfl ?_); refine gate_guard (by rfl) ?_; dsimp only; at_builtin; refine Kd.R_append_rows (Kd.int .i64) (w0 := w12) w12.heap.size rfl (.const (.slice none 0 0)) (.tmp 71) 28 3 (.int .i64 0) 8 rfl Try.underlying28 info3 rfl (by decide) (by omega) (.slice none 0 0) [] places _ _ _ (fun _ => True) (fun _ => False) rfl rfl (Kd.R_nil _ _ _ _ _) (Kd.C_below HR3.out HB12.out) (fun _ _ h => h) (fun _ h => h.elim) (fun _ _ => trivial) (Below.refl _ _) (Nat.le_refl _) (by have := HPL.out; simp; omega) ?_; intro v6 w13 ho hb hg hat; rw [List.nil_append] at ho; obtain ⟨APU, cPU, e6⟩ := Kd.R_slice ho; subst e6; have HPU := Aside0.mk (Kd.R_reads' ho).2.2; clear ho hg hat)
    have n_ := Aside0.mk (Kd.C_below HXu0.out hb)
    clear HXu0
    have HXu0 := n_
    clear n_
    have n_ := Aside0.mk (Kd.C_below HXu1.out hb)
    clear HXu1
    have HXu1 := n_
    clear n_
    have n_ := Aside0.mk (Kd.C_below HXu2.out hb)
    clear HXu2
    have HXu2 := n_
    clear n_
    have n_ := Aside0.mk (Kd.C_below HRW.out hb)
    clear HRW
    have HRW := n_
    clear n_
    have HB13 := Aside0.mk (below_then HB12.out HB12.out.size hb)
    clear hb
    refine (ProveQuote_calls Bu0 du0 paper Bu1 du1 quotation Bu2 du2 kept APU cPU places _ HXu0.out HDu0.out HXu1.out HXu2.out HPU.out (by have := HPL.out; omega)).mono ?_
    rintro e w14 ⟨rfl, hb⟩
    rw [HPK.out]
    clear HXu0 HXu1 HXu2 HPU
    have n_ := Aside0.mk (Kd.C_below HRW.out hb)
    clear HRW
    have HRW := n_
    clear n_
    have HB14 := Aside0.mk (below_then HB13.out HB13.out.size hb)
    clear hb
    go_wp2_with fail
    obtain ⟨r, hr⟩ : ∃ r, qSpec paper quotation kept = r := ⟨_, rfl⟩
    have HQ := Aside0.mk hr
    clear hr
    obtain ⟨r2, hr2⟩ : ∃ r2, qSpec paper quotation W = r2 := ⟨_, rfl⟩
    have HQ2 := Aside0.mk hr2
    clear hr2
    refine (list_calls A0 c0 paper _ (Kd.C_below HR0.out HB14.out) (Nat.le_trans SF0.out.1 (by decide))).mono ?_
    rintro e w15 ⟨By0, dy0, rfl, hd, hx, hb⟩
    have HXy0 := Aside0.mk hx
    have HDy0 := Aside0.mk hd
    clear hx hd
    have n_ := Aside0.mk (Kd.C_below HRW.out hb)
    clear HRW
    have HRW := n_
    clear n_
    have HB15 := Aside0.mk (below_then HB14.out HB14.out.size hb)
    clear hb
    go_wp2_with fail
    refine (list_calls A1 c1 quotation _ (Kd.C_below HR1.out HB15.out) (Nat.le_trans SF1.out.1 (by decide))).mono ?_
    rintro e w16 ⟨By1, dy1, rfl, hd, hx, hb⟩
    have HXy1 := Aside0.mk hx
    have HDy1 := Aside0.mk hd
    clear hx hd
    have n_ := Aside0.mk (Kd.C_below HXy0.out hb)
    clear HXy0
    have HXy0 := n_
    clear n_
    have n_ := Aside0.mk (Kd.C_below HRW.out hb)
    clear HRW
    have HRW := n_
    clear n_
    have HB16 := Aside0.mk (below_then HB15.out HB15.out.size hb)
    clear hb
    go_wp2_with fail
    refine (list_calls A2 c2 kept _ (Kd.C_below HR2.out HB16.out) (Nat.le_trans SF2.out.1 (by decide))).mono ?_
    rintro e w17 ⟨By2, dy2, rfl, hd, hx, hb⟩
    have HXy2 := Aside0.mk hx
    have HDy2 := Aside0.mk hd
    clear hx hd
    have n_ := Aside0.mk (Kd.C_below HXy0.out hb)
    clear HXy0
    have HXy0 := n_
    clear n_
    have n_ := Aside0.mk (Kd.C_below HXy1.out hb)
    clear HXy1
    have HXy1 := n_
    clear n_
    have n_ := Aside0.mk (Kd.C_below HRW.out hb)
    clear HRW
    have HRW := n_
    clear n_
    have HB17 := Aside0.mk (below_then HB16.out HB16.out.size hb)
    clear hb
    go_wp2_with fail
    refine (pQuote_calls By0 dy0 paper By1 dy1 quotation By2 dy2 kept r HQ.out _ HXy0.out HDy0.out HXy1.out HDy1.out HXy2.out HDy2.out).mono ?_
    rintro e w18 ⟨AL, cL, rfl, hd, hx, hb⟩
    have HXL := Aside0.mk hx
    clear hx hd HXy0 HXy1 HXy2
    have n_ := Aside0.mk (Kd.C_below HRW.out hb)
    clear HRW
    have HRW := n_
    clear n_
    have HB18 := Aside0.mk (below_then HB17.out HB17.out.size hb)
    clear hb
    go_wp2_with fail
    refine (list_calls A0 c0 paper _ (Kd.C_below HR0.out HB18.out) (Nat.le_trans SF0.out.1 (by decide))).mono ?_
    rintro e w19 ⟨Bz0, dz0, rfl, hd, hx, hb⟩
    have HXz0 := Aside0.mk hx
    have HDz0 := Aside0.mk hd
    clear hx hd
    have n_ := Aside0.mk (Kd.C_below HRW.out hb)
    clear HRW
    have HRW := n_
    clear n_
    have n_ := Aside0.mk (Kd.C_below HXL.out hb)
    clear HXL
    have HXL := n_
    clear n_
    have HB19 := Aside0.mk (below_then HB18.out HB18.out.size hb)
    clear hb
    go_wp2_with fail
    refine (list_calls A1 c1 quotation _ (Kd.C_below HR1.out HB19.out) (Nat.le_trans SF1.out.1 (by decide))).mono ?_
    rintro e w20 ⟨Bz1, dz1, rfl, hd, hx, hb⟩
    have HXz1 := Aside0.mk hx
    have HDz1 := Aside0.mk hd
    clear hx hd
    have n_ := Aside0.mk (Kd.C_below HXz0.out hb)
    clear HXz0
    have HXz0 := n_
    clear n_
    have n_ := Aside0.mk (Kd.C_below HRW.out hb)
    clear HRW
    have HRW := n_
    clear n_
    have n_ := Aside0.mk (Kd.C_below HXL.out hb)
    clear HXL
    have HXL := n_
    clear n_
    have HB20 := Aside0.mk (below_then HB19.out HB19.out.size hb)
    clear hb
    go_wp2_with fail
    refine (list_calls AW cW W _ HRW.out (Nat.le_trans SF5.out.1 (by decide))).mono ?_
    rintro e w21 ⟨Bz5, dz5, rfl, hd, hx, hb⟩
    have HXz5 := Aside0.mk hx
    have HDz5 := Aside0.mk hd
    clear hx hd
    have n_ := Aside0.mk (Kd.C_below HXz0.out hb)
    clear HXz0
    have HXz0 := n_
    clear n_
    have n_ := Aside0.mk (Kd.C_below HXz1.out hb)
    clear HXz1
    have HXz1 := n_
    clear n_
    have n_ := Aside0.mk (Kd.C_below HRW.out hb)
    clear HRW
    have HRW := n_
    clear n_
    have n_ := Aside0.mk (Kd.C_below HXL.out hb)
    clear HXL
    have HXL := n_
    clear n_
    have HB21 := Aside0.mk (below_then HB20.out HB20.out.size hb)
    clear hb
    go_wp2_with fail
    refine (pQuote_calls Bz0 dz0 paper Bz1 dz1 quotation Bz5 dz5 W r2 HQ2.out _ HXz0.out HDz0.out HXz1.out HDz1.out HXz5.out HDz5.out).mono ?_
    rintro e w22 ⟨AM, cM, rfl, hd, hx, hb⟩
    have HXM := Aside0.mk hx
    clear hx hd HXz0 HXz1 HXz5
    have n_ := Aside0.mk (Kd.C_below HXL.out hb)
    clear HXL
    have HXL := n_
    clear n_
    have HB22 := Aside0.mk (below_then HB21.out HB21.out.size hb)
    clear hb
    have hq := HQ.out
    have hq2 := HQ2.out
    unfold qSpec at hq hq2
    rw [HRK.out, if_pos rfl] at hq
    rw [HRWT.out, if_pos rfl] at hq2
    obtain ⟨F, hF⟩ : ∃ F, findP paper kept (piecesOf quotation) (piecesOf quotation).length (-1) = F := ⟨_, rfl⟩
    rw [hF] at hq
    have HF := Aside0.mk hF
    obtain ⟨F2, hF2⟩ : ∃ F2, findP paper W (piecesOf quotation) (piecesOf quotation).length (-1) = F2 := ⟨_, rfl⟩
    rw [hF2] at hq2
    have HF2 := Aside0.mk hF2
    clear hF hF2 HQ HQ2
    cases F2 with
    | none =>
      obtain rfl : r2 = ([], 7) := hq2.symm
      simp only [List.length_nil]
      clear hq2
      cases F with
      | none =>
        obtain rfl : r = ([], 7) := hq.symm
        simp only [List.length_nil]
        clear hq
        go_wp2_with fail
        refine (awake_calls _).mono ?_
        rintro e wz ⟨rfl, hb⟩
        have HBz := Aside0.mk (below_then HB22.out HB22.out.size hb)
        clear hb
        go_wp2
        go_ret
        exact ⟨rfl, HBz.out⟩
      | some l =>
        obtain rfl : r = (l, 0) := hq.symm
        simp only
        clear hq
        go_wp2_with fail
        refine (awake_calls _).mono ?_
        rintro e wz ⟨rfl, hb⟩
        have HBz := Aside0.mk (below_then HB22.out HB22.out.size hb)
        clear hb
        go_wp2
        go_ret
        exact ⟨rfl, HBz.out⟩
    | some m =>
      obtain rfl : r2 = (m, 0) := hq2.symm
      obtain ⟨-, hpm, hmn, -⟩ := found_fits HRWT.out HF2.out
      rw [← HW.out] at hpm
      obtain ⟨l, hl, hlx, hll⟩ := found_least (prove_kept HRK.out hpm)
      rw [HF.out] at hl
      subst hl
      obtain rfl : r = (l, 0) := hq.symm
      simp only at HXL HXM ⊢
      have HLL := Aside0.mk hll
      have HMN := Aside0.mk hmn
      have e1 : ((l.length : Int) != (m.length : Int)) = false := bne_eq_false_iff_eq.mpr (by omega)
      have HLX := Aside0.mk (show Lex (l.drop (0 : Int).toNat) (m.drop (0 : Int).toNat) from hlx)
      clear hq hq2 hpm hmn hlx hll HF HF2
      go_wp2_with fail
      clear e1
      go_loopg [16] l.length (fun kq v16 w' => ∃ i : Int, v16 = .int .i64 i ∧ Aside0 (0 ≤ i ∧ kq + i.toNat = l.length) ∧ Aside0 (Lex (l.drop i.toNat) (m.drop i.toNat)) ∧ Aside0 (Below w22.heap.size w22 w'))
      case atStart => exact ⟨0, rfl, ⟨by simp⟩, HLX, ⟨Below.refl _ _⟩⟩
      case round =>
        clear HLX
        obtain ⟨i, rfl, HK, HLX, HBB2⟩ := hrel
        rename World => W1
        have HB23 := Aside0.mk (below_then HB22.out HB22.out.size HBB2.out)
        by_cases hlt : i < (l.length : Int)
        case neg =>
          have t0 : decide (i < (l.length : Int)) = false := decide_eq_false hlt
          clear hlt
          go_wp2_with fail
          refine (awake_calls _).mono ?_
          rintro e wz ⟨rfl, hb⟩
          have HBz := Aside0.mk (below_then HB23.out HB23.out.size hb)
          clear hb
          go_wp2
          go_ret
          exact ⟨rfl, HBz.out⟩
        case pos =>
          have t0 : decide (i < (l.length : Int)) = true := decide_eq_true hlt
          have i0 : 0 ≤ i := HK.out.1
          have him : i < (m.length : Int) := by have := HLL.out; omega
          obtain ⟨pa, hA, g1⟩ := Kd.at_int (Kd.C_below HXL.out HBB2.out) i i0 hlt
          obtain ⟨pm, hA2, g2⟩ := Kd.at_int (Kd.C_below HXM.out HBB2.out) i i0 him
          have he := HLX.out
          rw [drop_int l i i0 hlt, drop_int m i i0 him, Lex] at he
          obtain ⟨a, ha⟩ : ∃ a, rd l i = a := ⟨_, rfl⟩
          obtain ⟨c, hc⟩ : ∃ c, rd m i = c := ⟨_, rfl⟩
          rw [ha] at g1 he
          rw [hc] at g2 he
          cases hA
          cases hA2
          have HLT := Aside0.mk hlt
          have HWI := Aside0.mk (show wrap64 (i + 1) = i + 1 by unfold wrap64; have := HK.out; have := HMN.out; have := HLL.out; omega)
          replace i0 := eq_true i0
          replace him := eq_true him
          replace hlt := eq_true hlt
          clear ha hc
          rcases he with he | ⟨he, hlx⟩
          case inl =>
            have x1 : (a != c) = true := bne_iff_ne.mpr (by omega)
            have x2 : decide (a < c) = true := decide_eq_true (by omega)
            clear he
            go_wp2
            go_quiet (fail)
            go_wp2
            refine start_ (n := 13) (S := fun w' => w'.cell? (pa.add i.toNat) = some (.int .i64 a) ∧ w'.cell? (pm.add i.toNat) = some (.int .i64 c)) (ds := []) #[false, false, false, false, false, false, false, false, false, false, false, false, false] (by kernel_rfl) rfl rfl ⟨g1, g2⟩ (fun hHeld => ?_)
            generalize hWd : (World.drewN W1 _).drew = wd at hHeld ⊢
            have HBd := Aside0.mk (show Below w.heap.size w wd by rw [← hWd]; exact below_drew (pw_below_drewN HB23.out _))
            clear hWd
            refine pure_ (i := 0) (N := some 135) (v := ?_) (a' := ?_) #[true, false, false, false, false, false, false, false, false, false, false, false, false] rfl rfl (by kernel_rfl) (fun _ _ _ h => h) (Or.inl ⟨by rfl, ?_⟩) ?_ ?_
            rotate_left
            · intro w'
              go_simp
              with_reducible rfl
            rotate_left
            · simp only [Act.put, List.setIfInBounds_toArray, List.set_cons_zero, List.set_cons_succ, i64_w, i32_w]
              rfl
            refine pure_ (i := 1) (N := some 136) (v := ?_) (a' := ?_) #[true, true, false, false, false, false, false, false, false, false, false, false, false] rfl rfl (by kernel_rfl) (fun _ _ _ h => h) (Or.inl ⟨by rfl, ?_⟩) ?_ ?_
            rotate_left
            · intro w'
              go_simp
              with_reducible rfl
            rotate_left
            · simp only [Act.put, List.setIfInBounds_toArray, List.set_cons_zero, List.set_cons_succ, i64_w, i32_w]
              rfl
            refine pure_ (i := 2) (N := some 137) (v := ?_) (a' := ?_) #[true, true, true, false, false, false, false, false, false, false, false, false, false] rfl rfl (by kernel_rfl) (fun _ _ _ h => h) (Or.inl ⟨by rfl, ?_⟩) ?_ ?_
            rotate_left
            · intro w'
              go_simp
              with_reducible rfl
            rotate_left
            · simp only [Act.put, List.setIfInBounds_toArray, List.set_cons_zero, List.set_cons_succ, i64_w, i32_w]
              rfl
            refine pure_ (i := 4) (N := some 139) (v := ?_) (a' := ?_) #[true, true, true, false, true, false, false, false, false, false, false, false, false] rfl rfl (by kernel_rfl) (fun _ _ _ h => h) (Or.inl ⟨by rfl, ?_⟩) ?_ ?_
            rotate_left
            · intro w'
              go_simp
              with_reducible rfl
            rotate_left
            · simp only [Act.put, List.setIfInBounds_toArray, List.set_cons_zero, List.set_cons_succ, i64_w, i32_w]
              rfl
            refine pure_ (i := 5) (N := some 140) (v := ?_) (a' := ?_) #[true, true, true, false, true, true, false, false, false, false, false, false, false] rfl rfl (by kernel_rfl) (fun _ _ _ h => h) (Or.inl ⟨by rfl, ?_⟩) ?_ ?_
            rotate_left
            · intro w'
              go_simp
              with_reducible rfl
            rotate_left
            · simp only [Act.put, List.setIfInBounds_toArray, List.set_cons_zero, List.set_cons_succ, i64_w, i32_w]
              rfl
            refine pure_ (i := 6) (N := some 141) (v := ?_) (a' := ?_) #[true, true, true, false, true, true, true, false, false, false, false, false, false] rfl rfl (by kernel_rfl) (fun _ _ _ h => h) (Or.inl ⟨by rfl, ?_⟩) ?_ ?_
            rotate_left
            · intro w'
              go_simp
              with_reducible rfl
            rotate_left
            · simp only [Act.put, List.setIfInBounds_toArray, List.set_cons_zero, List.set_cons_succ, i64_w, i32_w]
              rfl
            refine take_ (i := 3) (N := some 138) (v := ?_) (a' := ?_) #[true, true, true, true, true, true, true, false, false, false, false, false, false] rfl rfl (by kernel_rfl) (fun _ _ _ h => h) (Or.inl ⟨by rfl, ?_⟩) hHeld ?_ ?_
            rotate_left
            · rintro w' ⟨s0, s1⟩
              go_simp
              with_reducible rfl
            rotate_left
            · simp only [Act.put, List.setIfInBounds_toArray, List.set_cons_zero, List.set_cons_succ, i64_w, i32_w]
              rfl
            refine take_ (i := 7) (N := some 142) (v := ?_) (a' := ?_) #[true, true, true, true, true, true, true, true, false, false, false, false, false] rfl rfl (by kernel_rfl) (fun _ _ _ h => h) (Or.inl ⟨by rfl, ?_⟩) hHeld ?_ ?_
            rotate_left
            · rintro w' ⟨s0, s1⟩
              go_simp
              with_reducible rfl
            rotate_left
            · simp only [Act.put, List.setIfInBounds_toArray, List.set_cons_zero, List.set_cons_succ, i64_w, i32_w]
              rfl
            refine pure_ (i := 8) (N := some 143) (v := ?_) (a' := ?_) #[true, true, true, true, true, true, true, true, true, false, false, false, false] rfl rfl (by kernel_rfl) (fun _ _ _ h => h) (Or.inl ⟨by rfl, ?_⟩) ?_ ?_
            rotate_left
            · intro w'
              go_simp
              with_reducible rfl
            rotate_left
            · simp only [Act.put, List.setIfInBounds_toArray, List.set_cons_zero, List.set_cons_succ, i64_w, i32_w]
              rfl
            refine pure_ (i := 9) (N := some 144) (v := ?_) (a' := ?_) #[true, true, true, true, true, true, true, true, true, true, false, false, false] rfl rfl (by kernel_rfl) (fun _ _ _ h => h) (Or.inl ⟨by rfl, ?_⟩) ?_ ?_
            rotate_left
            · intro w'
              go_simp
              with_reducible rfl
            rotate_left
            · simp only [Act.put, List.setIfInBounds_toArray, List.set_cons_zero, List.set_cons_succ, i64_w, i32_w]
              rfl
            refine one_ (i := 10) (N := some 145) #[true, true, true, true, true, true, true, true, true, true, true, false, false] rfl rfl (by kernel_rfl) (by decide) (fun K hK => ?_)
            refine goes_ Try.func18 (by kernel_rfl) rfl #[] (by rfl) rfl rfl (by simp only [List.map_toArray, List.map_cons, List.map_nil]) ?_
            refine (awake_calls _).mono ?_
            rintro e w3 ⟨rfl, hb⟩
            refine ⟨_, rfl, ?_⟩
            have n_ := Aside0.mk (below_then HBd.out HBd.out.size hb)
            clear HBd
            have HBd := n_
            clear n_
            refine hK.out _ _ ⟨pw_cell_below hb hHeld.1, pw_cell_below hb hHeld.2⟩ (fun hHeld => ?_)
            clear hK K
            refine norm_ (a' := ?_) ?_ ?_
            rotate_left
            · show Act.put _ (some 145) _ = _
              simp only [Act.put, List.setIfInBounds_toArray, List.set_cons_zero, List.set_cons_succ, i64_w, i32_w]
              rfl
            refine pure_ (i := 11) (N := some 146) (v := ?_) (a' := ?_) #[true, true, true, true, true, true, true, true, true, true, true, true, false] rfl rfl (by kernel_rfl) (fun _ _ _ h => h) (Or.inl ⟨by rfl, ?_⟩) ?_ ?_
            rotate_left
            · intro w'
              go_simp
              with_reducible rfl
            rotate_left
            · simp only [Act.put, List.setIfInBounds_toArray, List.set_cons_zero, List.set_cons_succ, i64_w, i32_w]
              rfl
            refine pure_ (i := 12) (N := some 10) (v := ?_) (a' := ?_) #[true, true, true, true, true, true, true, true, true, true, true, true, true] rfl rfl (by kernel_rfl) (fun _ _ _ h => h) (Or.inl ⟨by rfl, ?_⟩) ?_ ?_
            rotate_left
            · intro w'
              go_simp
              with_reducible rfl
            rotate_left
            · simp only [Act.put, List.setIfInBounds_toArray, List.set_cons_zero, List.set_cons_succ, i64_w, i32_w]
              rfl
            refine done_ (by kernel_rfl) ?_
            go_wp2
            go_ret
            exact ⟨rfl, HBd.out⟩
          case inr =>
            have x1 : (a != c) = false := bne_eq_false_iff_eq.mpr he
            have HLX2 := Aside0.mk hlx
            clear he hlx
            go_wp2
            go_quiet (fail)
            go_wp2
            go_roundg (gk - 1)
            case measure => have := HK.out; have := HLT.out; omega
            case rel => exact ⟨i + 1, by first | rfl | rw [HWI.out], ⟨by have := HK.out; have := HLT.out; omega⟩, HLX2, ⟨pw_below_drewN HBB2.out _⟩⟩
theorem OfficeStays_row (A0 : Option Addr) (c0 : Nat) (paper : List ByteArray) (A1 : Option Addr) (c1 : Nat) (quotation : List ByteArray) (A2 : Option Addr) (c2 : Nat) (kept : List ByteArray) (more : ByteArray) (A3 : Option Addr) (c3 : Nat) (places : List Int) (w : World) (H0 : SIn w A0 c0 paper) (H1 : SIn w A1 c1 quotation) (H2 : SIn w A2 c2 kept) (hs : more.size ≤ 140737488351232) (H3 : IIn w A3 c3 places) :
    Calls Try.prog 12 #[.slice A0 paper.length c0, .slice A1 quotation.length c1, .slice A2 kept.length c2, .string more, .slice A3 places.length c3] w fun e w' => e = .returned (.bool true) ∧ Below w.heap.size w w' :=
  OfficeStays_calls A0 c0 paper A1 c1 quotation A2 c2 kept more A3 c3 places w H0.1 H1.1 H2.1 H3.1 ⟨Nat.le_trans H0.2.2 (by decide), Nat.le_trans H1.2.2 (by decide), H2.2.2⟩
end Go.Proofs.Ythpheknchikodaa.P
