/- Contracts of the functions that the law OfficeClashes reaches, part 8. Conditions: each theorem names its own. -/
import Derived.Test.YthpheknchikodaaXc7
import Derived.Test.YthpheknchikodaaXc3
/- The walk of office.quote: a quotation with its pieces. Conditions: the lists are readable. -/
namespace Go.Proofs.Ythpheknchikodaa.P
open Go.RowKit Go.Proofs.YthpheknchikodaaW.PrintWords Go.Proofs.YthpheknchikodaaW.PrintLast
set_option linter.unusedVariables false
set_option linter.unusedSimpArgs false

theorem info157 : (Try.prog.info? 157).map (fun i => (i.zero, i.size, i.bytes)) = some (some (.agg #[.string ⟨#[]⟩, .bool false]), 2, 24) := by kernel_rfl
def isGap (s : ByteArray) : Bool := s.toList == [46, 46, 46]
/-- The pieces of the rest of a quotation: what stands already, and whether a gap stands before. -/
def piecesFrom : Bool → List S157 → List ByteArray → List S157
  | _, L, [] => L
  | b, L, s :: l => if isGap s = true then piecesFrom true L l else piecesFrom false (L ++ [⟨s, b || decide (L.length = 0)⟩]) l
def piecesOf (quotation : List ByteArray) : List S157 := piecesFrom false [] quotation
def QBox (qb : Nat) (A0 : Option Addr) (n0 c0 : Nat) (A2 : Option Addr) (n2 c2 : Nat) (v : Value) (W : World) : Prop := W.heap[qb]? = some (.cells #[.slice A0 n0 c0, .slice A2 n2 c2, v] 134 (0, 0))
set_option maxHeartbeats 4000000 in
set_option maxRecDepth 100000 in
theorem quoteGood (R : List S157) (paper quotation kept : List ByteArray) (A0 : Option Addr) (c0 : Nat) (A1 : Option Addr) (c1 : Nat) (A2 : Option Addr) (c2 : Nat) (w : World)
    (h0 : Kd.C Kd.string w A0 paper.length paper) (h1 : Kd.C Kd.string w A1 quotation.length quotation) (h2 : Kd.C Kd.string w A2 kept.length kept) (b1 : withinB paper.length 1 80 = true) (b2 : withinB quotation.length 1 80 = true) (b3 : decide (20 < (kept.length : Int)) = false) (b4 : paper.all wordOk = true) (b5 : quotation.all wordOk = true) (b6 : kept.all wordOk = true) (hR : piecesOf quotation = R) :
    Calls Try.prog 64 #[.slice A0 paper.length c0, .slice A1 quotation.length c1, .slice A2 kept.length c2] w fun e w' => ∃ (qb : Nat) (Aq : Option Addr) (cq : Nat), e = .returned (.tuple #[.pointer (some ⟨qb, 0, none⟩), .bool (decide (0 < R.length))]) ∧
      QBox qb A0 paper.length c0 A2 kept.length c2 (.slice Aq R.length cq) w' ∧ Kd.R k157 157 w' w.heap.size (fun _ => True) (.slice Aq R.length cq) R ∧ Below w.heap.size w w' := by
  have HRR := Aside0.mk hR
  have HR0 := Aside0.mk h0
  clear hR
  have HR1 := Aside0.mk h1
  have HR2 := Aside0.mk h2
  have HL0 := Aside0.mk h0.2.1
  have HL1 := Aside0.mk h1.2.1
  have HL2 := Aside0.mk h2.2.1
  clear h0 h1 h2
  have HS0 := Aside0.mk (show paper.length ≤ 80 by unfold withinB at b1; simp at b1; omega)
  have HS1 := Aside0.mk (show quotation.length ≤ 80 by unfold withinB at b2; simp at b2; omega)
  have HS2 := Aside0.mk (show kept.length ≤ 20 by have h := of_decide_eq_false b3; omega)
  have HB := Aside0.mk (Below.refl w.heap.size w)
  have hu134 := Try.underlying134
  go_enter Try.func64, Try.ntmps64
  go_wp2_with (first | (go_at_call 73; (with_reducible refine (within_calls _ _ _ _).mono ?_); rintro e w' ⟨rfl, rfl⟩; (first | rw [b1] | rw [b2])) | (go_at_call 91; (refine (allStr 90 #[] wordOk A0 c0 paper _ (Kd.C_below HR0.out HB.out) (by have := HS0.out; omega) (enters_ Try.func90 (by kernel_rfl) rfl) (fun x W _ => word_calls x W)).mono ?_); rintro e w2 ⟨rfl, hb⟩; have n0_ := Aside0.mk (below_then HB.out HB.out.size hb); clear HB; have HB := n0_; clear n0_ hb; rw [b4]) | (go_at_call 91; (refine (allStr 90 #[] wordOk A1 c1 quotation _ (Kd.C_below HR1.out HB.out) (by have := HS1.out; omega) (enters_ Try.func90 (by kernel_rfl) rfl) (fun x W _ => word_calls x W)).mono ?_); rintro e w3 ⟨rfl, hb⟩; have n0_ := Aside0.mk (below_then HB.out HB.out.size hb); clear HB; have HB := n0_; clear n0_ hb; rw [b5]) | (go_at_call 91; (refine (allStr 90 #[] wordOk A2 c2 kept _ (Kd.C_below HR2.out HB.out) (by have := HS2.out; omega) (enters_ Try.func90 (by kernel_rfl) rfl) (fun x W _ => word_calls x W)).mono ?_); rintro e w4 ⟨rfl, hb⟩; have n0_ := Aside0.mk (below_then HB.out HB.out.size hb); clear HB; have HB := n0_; clear n0_ hb; rw [b6]))
  obtain ⟨qb, hqb⟩ : ∃ qb, w4.heap.size = qb := ⟨_, rfl⟩
  have HX0 := Aside0.mk (show QBox qb A0 paper.length c0 A2 kept.length c2 (.slice none 0 0) (w4.alloc (.cells #[.slice A0 paper.length c0, .slice A2 kept.length c2, .slice none 0 0] 134)) by
    rw [← hqb]; exact blk_new w4 _)
  have HQB := Aside0.mk (show w.heap.size ≤ qb by rw [← hqb]; exact HB.out.size)
  have HB1 := Aside0.mk (below_alloc HB.out (.cells #[.slice A0 paper.length c0, .slice A2 kept.length c2, .slice none 0 0] 134))
  rw [hqb]
  clear HB
  generalize w4.alloc (.cells #[.slice A0 paper.length c0, .slice A2 kept.length c2, .slice none 0 0] 134) = w5 at HX0 HB1 ⊢
  clear hqb
  go_loopg [10, 52] quotation.length (fun kq v10 v52 w' => ∃ (b : Bool) (i : Int) (L : List S157) (Al : Option Addr) (cl : Nat), v10 = .bool b ∧ v52 = .int .i64 i ∧ Aside0 (0 ≤ i ∧ kq + i.toNat = quotation.length ∧ (L.length : Int) ≤ i) ∧ Aside0 (piecesFrom b L (quotation.drop i.toNat) = R) ∧
    Aside0 (QBox qb A0 paper.length c0 A2 kept.length c2 (.slice Al L.length cl) w') ∧ Aside0 (Kd.R k157 157 w' w.heap.size (fun _ => True) (.slice Al L.length cl) L) ∧ Aside0 (Below w.heap.size w w'))
  case atStart => exact ⟨false, 0, [], none, 0, rfl, rfl, ⟨by simp⟩, ⟨HRR.out⟩, HX0, ⟨Kd.R_nil _ _ _ _ _⟩, HB1⟩
  case round =>
    clear HX0 HB1
    obtain ⟨b, i, L, Al, cl, rfl, rfl, HI, HP, HX, HO, HB⟩ := hrel
    have hX := HX.out
    have hc := (blk_cell hX 2).trans (show _ = some (Value.slice Al L.length cl) from rfl)
    clear hX
    by_cases hlt : i < (quotation.length : Int)
    case neg =>
      have t0 : decide (i < (quotation.length : Int)) = false := decide_eq_false hlt
      have hF : R = L := by rw [← HP.out, List.drop_eq_nil_of_le (by have := HI.out; omega)]; rfl
      subst hF
      clear hlt
      go_wp2
      go_quiet (fail)
      go_wp2
      refine bodyPost_ret (results_tmp2 rfl _ _ _) rfl ?_
      exact ⟨qb, Al, cl, rfl, HX.out, Kd.R_drewN HO.out _, pw_below_drewN HB.out _⟩
    case pos =>
      have t0 : decide (i < (quotation.length : Int)) = true := decide_eq_true hlt
      have i0 : 0 ≤ i := HI.out.1
      have hw : wrap64 (i + 1) = i + 1 := by unfold wrap64; have := HS1.out; omega
      have HLT := Aside0.mk hlt
      obtain ⟨ad, hA, g0⟩ := Kd.at_string (Kd.C_below HR1.out HB.out) i i0 hlt
      obtain ⟨s, hs⟩ : ∃ s, rdOf ByteArray.empty quotation i = s := ⟨_, rfl⟩
      rw [hs] at g0
      have HD := Aside0.mk (show quotation.drop i.toNat = s :: quotation.drop (i + 1).toNat by
        have h' : i.toNat < quotation.length := by omega
        rw [List.drop_eq_getElem_cons h', show (i + 1).toNat = i.toNat + 1 by omega, ← hs]
        simp [rdOf, h'])
      cases hA
      clear hs
      replace i0 := eq_true i0
      replace hlt := eq_true hlt
      cases hg : isGap s
      · have HPN := Aside0.mk (show piecesFrom false (L ++ [⟨s, b || decide (L.length = 0)⟩]) (quotation.drop (i + 1).toNat) = R by rw [← HP.out, HD.out, piecesFrom, if_neg (by rw [hg]; simp)])
        have g1 : (s.toList == [46, 46, 46]) = false := hg
        have g2 : (s.toList = [46, 46, 46]) = False := by simpa using g1
        have HLL := Aside0.mk (show quotation.length ≤ 80 from HS1.out)
        clear hg
        cases b
        · obtain ⟨z, hz⟩ : ∃ z, decide (L.length = 0) = z := ⟨_, rfl⟩
          have z1 : (L.length == 0) = z := by rw [← hz]; rfl
          have z2 : ((L.length : Int) == 0) = z := by rw [← z1, Bool.eq_iff_iff]; simp
          have z3 : decide ((L.length : Int) = 0) = z := by rw [← hz, Bool.eq_iff_iff]; simp
          have z4 : L.isEmpty = z := by rw [← hz, Bool.eq_iff_iff]; simp
          rw [Bool.false_or, hz] at HPN
          go_wp2
          have HB5 := Aside0.mk (below_drew1 HB.out)
          have HO5 := Aside0.mk (Kd.R_drew HO.out)
          have HX5 := Aside0.mk (show QBox qb A0 paper.length c0 A2 kept.length c2 (.slice Al L.length cl) wr.drew from HX.out)
          refine start_ (n := 21) (S := fun w' => w'.cell? ⟨qb, 2, none⟩ = some (.slice Al L.length cl)) (ds := [20]) #[false, false, false, false, false, false, false, false, false, false, false, false, false, false, false, false, false, false, false, false, false] (by kernel_rfl) rfl rfl (hc) (fun hHeld => ?_)
          generalize wr.drew = w5 at HB5 HO5 HX5 hHeld ⊢
          refine pure_ (i := 0) (N := some 58) (v := ?_) (a' := ?_) #[true, false, false, false, false, false, false, false, false, false, false, false, false, false, false, false, false, false, false, false, false] rfl rfl (by kernel_rfl) (fun _ _ _ h => h) (Or.inl ⟨by rfl, ?_⟩) ?_ ?_
          rotate_left
          · intro w'
            go_simp
            with_reducible rfl
          rotate_left
          · simp only [Act.put, List.setIfInBounds_toArray, List.set_cons_zero, List.set_cons_succ, i64_w, i32_w]
            rfl
          refine pure_ (i := 1) (N := some 59) (v := ?_) (a' := ?_) #[true, true, false, false, false, false, false, false, false, false, false, false, false, false, false, false, false, false, false, false, false] rfl rfl (by kernel_rfl) (fun _ _ _ h => h) (Or.inl ⟨by rfl, ?_⟩) ?_ ?_
          rotate_left
          · intro w'
            go_simp
            with_reducible rfl
          rotate_left
          · simp only [Act.put, List.setIfInBounds_toArray, List.set_cons_zero, List.set_cons_succ, i64_w, i32_w]
            rfl
          refine pure_ (i := 2) (N := some 60) (v := ?_) (a' := ?_) #[true, true, true, false, false, false, false, false, false, false, false, false, false, false, false, false, false, false, false, false, false] rfl rfl (by kernel_rfl) (fun _ _ _ h => h) (Or.inl ⟨by rfl, ?_⟩) ?_ ?_
          rotate_left
          · intro w'
            go_simp
            with_reducible rfl
          rotate_left
          · simp only [Act.put, List.setIfInBounds_toArray, List.set_cons_zero, List.set_cons_succ, i64_w, i32_w]
            rfl
          refine pure_ (i := 3) (N := some 61) (v := ?_) (a' := ?_) #[true, true, true, true, false, false, false, false, false, false, false, false, false, false, false, false, false, false, false, false, false] rfl rfl (by kernel_rfl) (fun _ _ _ h => h) (Or.inl ⟨by rfl, ?_⟩) ?_ ?_
          rotate_left
          · intro w'
            go_simp
            with_reducible rfl
          rotate_left
          · simp only [Act.put, List.setIfInBounds_toArray, List.set_cons_zero, List.set_cons_succ, i64_w, i32_w]
            rfl
          refine pure_ (i := 5) (N := some 63) (v := ?_) (a' := ?_) #[true, true, true, true, false, true, false, false, false, false, false, false, false, false, false, false, false, false, false, false, false] rfl rfl (by kernel_rfl) (fun _ _ _ h => h) (Or.inl ⟨by rfl, ?_⟩) ?_ ?_
          rotate_left
          · intro w'
            go_simp
            with_reducible rfl
          rotate_left
          · simp only [Act.put, List.setIfInBounds_toArray, List.set_cons_zero, List.set_cons_succ, i64_w, i32_w]
            rfl
          refine pure_ (i := 6) (N := some 64) (v := ?_) (a' := ?_) #[true, true, true, true, false, true, true, false, false, false, false, false, false, false, false, false, false, false, false, false, false] rfl rfl (by kernel_rfl) (fun _ _ _ h => h) (Or.inl ⟨by rfl, ?_⟩) ?_ ?_
          rotate_left
          · intro w'
            go_simp
            with_reducible rfl
          rotate_left
          · simp only [Act.put, List.setIfInBounds_toArray, List.set_cons_zero, List.set_cons_succ, i64_w, i32_w]
            rfl
          refine pure_ (i := 7) (N := some 65) (v := ?_) (a' := ?_) #[true, true, true, true, false, true, true, true, false, false, false, false, false, false, false, false, false, false, false, false, false] rfl rfl (by kernel_rfl) (fun _ _ _ h => h) (Or.inl ⟨by rfl, ?_⟩) ?_ ?_
          rotate_left
          · intro w'
            go_simp
            with_reducible rfl
          rotate_left
          · simp only [Act.put, List.setIfInBounds_toArray, List.set_cons_zero, List.set_cons_succ, i64_w, i32_w]
            rfl
          refine pure_ (i := 8) (N := some 66) (v := ?_) (a' := ?_) #[true, true, true, true, false, true, true, true, true, false, false, false, false, false, false, false, false, false, false, false, false] rfl rfl (by kernel_rfl) (fun _ _ _ h => h) (Or.inl ⟨by rfl, ?_⟩) ?_ ?_
          rotate_left
          · intro w'
            go_simp
            with_reducible rfl
          rotate_left
          · simp only [Act.put, List.setIfInBounds_toArray, List.set_cons_zero, List.set_cons_succ, i64_w, i32_w]
            rfl
          refine pure_ (i := 9) (N := some 67) (v := ?_) (a' := ?_) #[true, true, true, true, false, true, true, true, true, true, false, false, false, false, false, false, false, false, false, false, false] rfl rfl (by kernel_rfl) (fun _ _ _ h => h) (Or.inl ⟨by rfl, ?_⟩) ?_ ?_
          rotate_left
          · intro w'
            go_simp
            with_reducible rfl
          rotate_left
          · simp only [Act.put, List.setIfInBounds_toArray, List.set_cons_zero, List.set_cons_succ, i64_w, i32_w]
            rfl
          refine pure_ (i := 10) (N := some 68) (v := ?_) (a' := ?_) #[true, true, true, true, false, true, true, true, true, true, true, false, false, false, false, false, false, false, false, false, false] rfl rfl (by kernel_rfl) (fun _ _ _ h => h) (Or.inl ⟨by rfl, ?_⟩) ?_ ?_
          rotate_left
          · intro w'
            go_simp
            with_reducible rfl
          rotate_left
          · simp only [Act.put, List.setIfInBounds_toArray, List.set_cons_zero, List.set_cons_succ, i64_w, i32_w]
            rfl
          refine take_ (i := 4) (N := some 62) (v := ?_) (a' := ?_) #[true, true, true, true, true, true, true, true, true, true, true, false, false, false, false, false, false, false, false, false, false] rfl rfl (by kernel_rfl) (fun _ _ _ h => h) (Or.inl ⟨by rfl, ?_⟩) hHeld ?_ ?_
          rotate_left
          · intro w' s0
            go_simp
            with_reducible rfl
          rotate_left
          · simp only [Act.put, List.setIfInBounds_toArray, List.set_cons_zero, List.set_cons_succ, i64_w, i32_w]
            rfl
          refine take_ (i := 11) (N := some 69) (v := ?_) (a' := ?_) #[true, true, true, true, true, true, true, true, true, true, true, true, false, false, false, false, false, false, false, false, false] rfl rfl (by kernel_rfl) (fun _ _ _ h => h) (Or.inl ⟨by rfl, ?_⟩) hHeld ?_ ?_
          rotate_left
          · intro w' s0
            go_simp
            with_reducible rfl
          rotate_left
          · simp only [Act.put, List.setIfInBounds_toArray, List.set_cons_zero, List.set_cons_succ, i64_w, i32_w]
            rfl
          refine pure_ (i := 12) (N := some 70) (v := ?_) (a' := ?_) #[true, true, true, true, true, true, true, true, true, true, true, true, true, false, false, false, false, false, false, false, false] rfl rfl (by kernel_rfl) (fun _ _ _ h => h) (Or.inl ⟨by rfl, ?_⟩) ?_ ?_
          rotate_left
          · intro w'
            go_simp
            with_reducible rfl
          rotate_left
          · simp only [Act.put, List.setIfInBounds_toArray, List.set_cons_zero, List.set_cons_succ, i64_w, i32_w]
            rfl
          refine pure_ (i := 13) (N := some 71) (v := ?_) (a' := ?_) #[true, true, true, true, true, true, true, true, true, true, true, true, true, true, false, false, false, false, false, false, false] rfl rfl (by kernel_rfl) (fun _ _ _ h => h) (Or.inl ⟨by rfl, ?_⟩) ?_ ?_
          rotate_left
          · intro w'
            go_simp
            with_reducible rfl
          rotate_left
          · simp only [Act.put, List.setIfInBounds_toArray, List.set_cons_zero, List.set_cons_succ, i64_w, i32_w]
            rfl
          refine pure_ (i := 14) (N := some 72) (v := ?_) (a' := ?_) #[true, true, true, true, true, true, true, true, true, true, true, true, true, true, true, false, false, false, false, false, false] rfl rfl (by kernel_rfl) (fun _ _ _ h => h) (Or.inl ⟨by rfl, ?_⟩) ?_ ?_
          rotate_left
          · intro w'
            go_simp
            with_reducible rfl
          rotate_left
          · simp only [Act.put, List.setIfInBounds_toArray, List.set_cons_zero, List.set_cons_succ, i64_w, i32_w]
            rfl
          refine pure_ (i := 15) (N := some 73) (v := ?_) (a' := ?_) #[true, true, true, true, true, true, true, true, true, true, true, true, true, true, true, true, false, false, false, false, false] rfl rfl (by kernel_rfl) (fun _ _ _ h => h) (Or.inl ⟨by rfl, ?_⟩) ?_ ?_
          rotate_left
          · intro w'
            go_simp
            with_reducible rfl
          rotate_left
          · simp only [Act.put, List.setIfInBounds_toArray, List.set_cons_zero, List.set_cons_succ, i64_w, i32_w]
            rfl
          refine one_ (i := 16) (N := some 74) #[true, true, true, true, true, true, true, true, true, true, true, true, true, true, true, true, true, false, false, false, false] rfl rfl (by kernel_rfl) (by decide) (fun K hK => ?_)
          refine value_ (w1 := ?_) (v := ?_) (by rfl) rfl ?_ ?_
          rotate_left 2
          · go_simp
            constructor
            · rfl
            · rfl
          refine hK.out _ _ (pw_cell_below ((Below.refl _ _).alloc (Nat.le_refl _) _) hHeld) (fun hHeld => ?_)
          clear hK K
          refine norm_ (a' := ?_) ?_ ?_
          rotate_left
          · show Act.put _ (some 74) _ = _
            simp only [Act.put, List.setIfInBounds_toArray, List.set_cons_zero, List.set_cons_succ, i64_w, i32_w]
            rfl
          refine one_ (i := 17) (N := some 75) #[true, true, true, true, true, true, true, true, true, true, true, true, true, true, true, true, true, true, false, false, false] rfl rfl (by kernel_rfl) (by decide) (fun K hK => ?_)
          refine Kd.R_append_step k157 (w0 := w) w.heap.size (by rfl) (.tmp 62) (.tmp 74) 132 157 (.agg #[.string ⟨#[]⟩, .bool false]) 24 rfl Try.underlying132 info157 rfl (by decide) (by omega) (.slice Al L.length cl) L (⟨s, z⟩ : S157) [.string s, .bool z] (fun _ => True) (fun _ => False) rfl rfl ?aP (fun _ hk => hk.elim) ?aF ?aO ?aB ?aS ?aL ?_
          (case aP => exact k157_mkM _ _ _ (⟨s, z⟩ : S157))
          (case aB => exact HB5.out)
          (case aF => exact (fun _ _ => trivial))
          (case aO => exact HO5.out)
          (case aS => exact HB5.out.size)
          (case aL => have := HLL.out; have := HI.out; omega)
          intro v6 w6 ho hb hg hat
          obtain ⟨A6, c6, e6⟩ := Kd.R_slice ho
          rw [List.length_append, List.length_singleton] at e6
          subst e6
          have hbx6 := blk_grown HX5.out hg (Kd.R_ne HO5.out HX5.out (by decide))
          have x0 := (blk_cell hbx6 2).trans (show _ = some (Value.slice Al L.length cl) from rfl)
          have x1 := blk_frozen hbx6 2
          have HX6 := Aside0.mk (show QBox qb A0 paper.length c0 A2 kept.length c2 (.slice A6 (L.length + 1) c6) (w6.setCell ⟨qb, 2, none⟩ (.slice A6 (L.length + 1) c6)) from blk_set hbx6 2 _)
          have HO6 := Aside0.mk (Kd.R_set ho hbx6 (by intro q hq; simp [k157, Kd.iso, Kd.pair, Kd.string, Kd.bool, Kd.scalar] at hq; subst hq; decide) 2 (.slice A6 (L.length + 1) c6))
          have HB6 := Aside0.mk (hb.setCell (p := ⟨qb, 2, none⟩) HQB.out (.slice A6 (L.length + 1) c6))
          clear ho hb hg hat hbx6
          refine hK.out _ _ (x0) (fun hHeld => ?_)
          clear hK K
          refine norm_ (a' := ?_) ?_ ?_
          rotate_left
          · show Act.put _ (some 75) _ = _
            simp only [Act.put, List.setIfInBounds_toArray, List.set_cons_zero, List.set_cons_succ, i64_w, i32_w]
            rfl
          refine pure_ (i := 18) (N := some 76) (v := ?_) (a' := ?_) #[true, true, true, true, true, true, true, true, true, true, true, true, true, true, true, true, true, true, true, false, false] rfl rfl (by kernel_rfl) (fun _ _ _ h => h) (Or.inl ⟨by rfl, ?_⟩) ?_ ?_
          rotate_left
          · intro w'
            go_simp
            with_reducible rfl
          rotate_left
          · simp only [Act.put, List.setIfInBounds_toArray, List.set_cons_zero, List.set_cons_succ, i64_w, i32_w]
            rfl
          refine pure_ (i := 19) (N := some 77) (v := ?_) (a' := ?_) #[true, true, true, true, true, true, true, true, true, true, true, true, true, true, true, true, true, true, true, true, false] rfl rfl (by kernel_rfl) (fun _ _ _ h => h) (Or.inl ⟨by rfl, ?_⟩) ?_ ?_
          rotate_left
          · intro w'
            go_simp
            with_reducible rfl
          rotate_left
          · simp only [Act.put, List.setIfInBounds_toArray, List.set_cons_zero, List.set_cons_succ, i64_w, i32_w]
            rfl
          refine last_ (i := 20) (N := none) #[true, true, true, true, true, true, true, true, true, true, true, true, true, true, true, true, true, true, true, true, true] rfl rfl (by kernel_rfl) (by decide) (fun K hK => ?_)
          refine skip_ (w1 := ?_) (by rfl) rfl ?_ ?_
          rotate_left
          · go_simp
            rfl
          refine hK.out _ _ ?_
          clear hK K
          refine done_ (by kernel_rfl) ?_
          go_wp2
          go_roundg (gk - 1)
          case measure => have := HI.out; have := HLT.out; omega
          case rel => exact ⟨false, i + 1, L ++ [⟨s, z⟩], A6, c6, by first | rfl | (simp; done), by first | rfl | rw [hw], ⟨by have := HI.out; have := HLT.out; simp; omega⟩, HPN, ⟨by rw [List.length_append, List.length_singleton]; exact HX6.out⟩, ⟨by rw [List.length_append, List.length_singleton]; exact HO6.out⟩, HB6⟩
        · rw [Bool.true_or] at HPN
          go_wp2
          have HB5 := Aside0.mk (below_drew1 HB.out)
          have HO5 := Aside0.mk (Kd.R_drew HO.out)
          have HX5 := Aside0.mk (show QBox qb A0 paper.length c0 A2 kept.length c2 (.slice Al L.length cl) wr.drew from HX.out)
          refine start_ (n := 21) (S := fun w' => w'.cell? ⟨qb, 2, none⟩ = some (.slice Al L.length cl)) (ds := [20]) #[false, false, false, false, false, false, false, false, false, false, false, false, false, false, false, false, false, false, false, false, false] (by kernel_rfl) rfl rfl (hc) (fun hHeld => ?_)
          generalize wr.drew = w5 at HB5 HO5 HX5 hHeld ⊢
          refine pure_ (i := 0) (N := some 58) (v := ?_) (a' := ?_) #[true, false, false, false, false, false, false, false, false, false, false, false, false, false, false, false, false, false, false, false, false] rfl rfl (by kernel_rfl) (fun _ _ _ h => h) (Or.inl ⟨by rfl, ?_⟩) ?_ ?_
          rotate_left
          · intro w'
            go_simp
            with_reducible rfl
          rotate_left
          · simp only [Act.put, List.setIfInBounds_toArray, List.set_cons_zero, List.set_cons_succ, i64_w, i32_w]
            rfl
          refine pure_ (i := 1) (N := some 59) (v := ?_) (a' := ?_) #[true, true, false, false, false, false, false, false, false, false, false, false, false, false, false, false, false, false, false, false, false] rfl rfl (by kernel_rfl) (fun _ _ _ h => h) (Or.inl ⟨by rfl, ?_⟩) ?_ ?_
          rotate_left
          · intro w'
            go_simp
            with_reducible rfl
          rotate_left
          · simp only [Act.put, List.setIfInBounds_toArray, List.set_cons_zero, List.set_cons_succ, i64_w, i32_w]
            rfl
          refine pure_ (i := 2) (N := some 60) (v := ?_) (a' := ?_) #[true, true, true, false, false, false, false, false, false, false, false, false, false, false, false, false, false, false, false, false, false] rfl rfl (by kernel_rfl) (fun _ _ _ h => h) (Or.inl ⟨by rfl, ?_⟩) ?_ ?_
          rotate_left
          · intro w'
            go_simp
            with_reducible rfl
          rotate_left
          · simp only [Act.put, List.setIfInBounds_toArray, List.set_cons_zero, List.set_cons_succ, i64_w, i32_w]
            rfl
          refine pure_ (i := 3) (N := some 61) (v := ?_) (a' := ?_) #[true, true, true, true, false, false, false, false, false, false, false, false, false, false, false, false, false, false, false, false, false] rfl rfl (by kernel_rfl) (fun _ _ _ h => h) (Or.inl ⟨by rfl, ?_⟩) ?_ ?_
          rotate_left
          · intro w'
            go_simp
            with_reducible rfl
          rotate_left
          · simp only [Act.put, List.setIfInBounds_toArray, List.set_cons_zero, List.set_cons_succ, i64_w, i32_w]
            rfl
          refine pure_ (i := 5) (N := some 63) (v := ?_) (a' := ?_) #[true, true, true, true, false, true, false, false, false, false, false, false, false, false, false, false, false, false, false, false, false] rfl rfl (by kernel_rfl) (fun _ _ _ h => h) (Or.inl ⟨by rfl, ?_⟩) ?_ ?_
          rotate_left
          · intro w'
            go_simp
            with_reducible rfl
          rotate_left
          · simp only [Act.put, List.setIfInBounds_toArray, List.set_cons_zero, List.set_cons_succ, i64_w, i32_w]
            rfl
          refine pure_ (i := 6) (N := some 64) (v := ?_) (a' := ?_) #[true, true, true, true, false, true, true, false, false, false, false, false, false, false, false, false, false, false, false, false, false] rfl rfl (by kernel_rfl) (fun _ _ _ h => h) (Or.inl ⟨by rfl, ?_⟩) ?_ ?_
          rotate_left
          · intro w'
            go_simp
            with_reducible rfl
          rotate_left
          · simp only [Act.put, List.setIfInBounds_toArray, List.set_cons_zero, List.set_cons_succ, i64_w, i32_w]
            rfl
          refine pure_ (i := 7) (N := some 65) (v := ?_) (a' := ?_) #[true, true, true, true, false, true, true, true, false, false, false, false, false, false, false, false, false, false, false, false, false] rfl rfl (by kernel_rfl) (fun _ _ _ h => h) (Or.inl ⟨by rfl, ?_⟩) ?_ ?_
          rotate_left
          · intro w'
            go_simp
            with_reducible rfl
          rotate_left
          · simp only [Act.put, List.setIfInBounds_toArray, List.set_cons_zero, List.set_cons_succ, i64_w, i32_w]
            rfl
          refine pure_ (i := 8) (N := some 66) (v := undef) (a' := ?_) #[true, true, true, true, false, true, true, true, true, false, false, false, false, false, false, false, false, false, false, false, false] rfl rfl (by kernel_rfl) (fun _ _ _ h => h) (Or.inr ⟨by rfl, rfl⟩) ?_ ?_
          rotate_left
          · simp only [Act.put, List.setIfInBounds_toArray, List.set_cons_zero, List.set_cons_succ, i64_w, i32_w]
            rfl
          refine pure_ (i := 9) (N := some 67) (v := undef) (a' := ?_) #[true, true, true, true, false, true, true, true, true, true, false, false, false, false, false, false, false, false, false, false, false] rfl rfl (by kernel_rfl) (fun _ _ _ h => h) (Or.inr ⟨by rfl, rfl⟩) ?_ ?_
          rotate_left
          · simp only [Act.put, List.setIfInBounds_toArray, List.set_cons_zero, List.set_cons_succ, i64_w, i32_w]
            rfl
          refine pure_ (i := 10) (N := some 68) (v := undef) (a' := ?_) #[true, true, true, true, false, true, true, true, true, true, true, false, false, false, false, false, false, false, false, false, false] rfl rfl (by kernel_rfl) (fun _ _ _ h => h) (Or.inr ⟨by rfl, rfl⟩) ?_ ?_
          rotate_left
          · simp only [Act.put, List.setIfInBounds_toArray, List.set_cons_zero, List.set_cons_succ, i64_w, i32_w]
            rfl
          refine pure_ (i := 11) (N := some 69) (v := undef) (a' := ?_) #[true, true, true, true, false, true, true, true, true, true, true, true, false, false, false, false, false, false, false, false, false] rfl rfl (by kernel_rfl) (fun _ _ _ h => h) (Or.inr ⟨by rfl, rfl⟩) ?_ ?_
          rotate_left
          · simp only [Act.put, List.setIfInBounds_toArray, List.set_cons_zero, List.set_cons_succ, i64_w, i32_w]
            rfl
          refine pure_ (i := 12) (N := some 70) (v := undef) (a' := ?_) #[true, true, true, true, false, true, true, true, true, true, true, true, true, false, false, false, false, false, false, false, false] rfl rfl (by kernel_rfl) (fun _ _ _ h => h) (Or.inr ⟨by rfl, rfl⟩) ?_ ?_
          rotate_left
          · simp only [Act.put, List.setIfInBounds_toArray, List.set_cons_zero, List.set_cons_succ, i64_w, i32_w]
            rfl
          refine pure_ (i := 13) (N := some 71) (v := undef) (a' := ?_) #[true, true, true, true, false, true, true, true, true, true, true, true, true, true, false, false, false, false, false, false, false] rfl rfl (by kernel_rfl) (fun _ _ _ h => h) (Or.inr ⟨by rfl, rfl⟩) ?_ ?_
          rotate_left
          · simp only [Act.put, List.setIfInBounds_toArray, List.set_cons_zero, List.set_cons_succ, i64_w, i32_w]
            rfl
          refine pure_ (i := 14) (N := some 72) (v := ?_) (a' := ?_) #[true, true, true, true, false, true, true, true, true, true, true, true, true, true, true, false, false, false, false, false, false] rfl rfl (by kernel_rfl) (fun _ _ _ h => h) (Or.inl ⟨by rfl, ?_⟩) ?_ ?_
          rotate_left
          · intro w'
            go_simp
            with_reducible rfl
          rotate_left
          · simp only [Act.put, List.setIfInBounds_toArray, List.set_cons_zero, List.set_cons_succ, i64_w, i32_w]
            rfl
          refine pure_ (i := 15) (N := some 73) (v := ?_) (a' := ?_) #[true, true, true, true, false, true, true, true, true, true, true, true, true, true, true, true, false, false, false, false, false] rfl rfl (by kernel_rfl) (fun _ _ _ h => h) (Or.inl ⟨by rfl, ?_⟩) ?_ ?_
          rotate_left
          · intro w'
            go_simp
            with_reducible rfl
          rotate_left
          · simp only [Act.put, List.setIfInBounds_toArray, List.set_cons_zero, List.set_cons_succ, i64_w, i32_w]
            rfl
          refine take_ (i := 4) (N := some 62) (v := ?_) (a' := ?_) #[true, true, true, true, true, true, true, true, true, true, true, true, true, true, true, true, false, false, false, false, false] rfl rfl (by kernel_rfl) (fun _ _ _ h => h) (Or.inl ⟨by rfl, ?_⟩) hHeld ?_ ?_
          rotate_left
          · intro w' s0
            go_simp
            with_reducible rfl
          rotate_left
          · simp only [Act.put, List.setIfInBounds_toArray, List.set_cons_zero, List.set_cons_succ, i64_w, i32_w]
            rfl
          refine one_ (i := 16) (N := some 74) #[true, true, true, true, true, true, true, true, true, true, true, true, true, true, true, true, true, false, false, false, false] rfl rfl (by kernel_rfl) (by decide) (fun K hK => ?_)
          refine value_ (w1 := ?_) (v := ?_) (by rfl) rfl ?_ ?_
          rotate_left 2
          · go_simp
            constructor
            · rfl
            · rfl
          refine hK.out _ _ (pw_cell_below ((Below.refl _ _).alloc (Nat.le_refl _) _) hHeld) (fun hHeld => ?_)
          clear hK K
          refine norm_ (a' := ?_) ?_ ?_
          rotate_left
          · show Act.put _ (some 74) _ = _
            simp only [Act.put, List.setIfInBounds_toArray, List.set_cons_zero, List.set_cons_succ, i64_w, i32_w]
            rfl
          refine one_ (i := 17) (N := some 75) #[true, true, true, true, true, true, true, true, true, true, true, true, true, true, true, true, true, true, false, false, false] rfl rfl (by kernel_rfl) (by decide) (fun K hK => ?_)
          refine Kd.R_append_step k157 (w0 := w) w.heap.size (by rfl) (.tmp 62) (.tmp 74) 132 157 (.agg #[.string ⟨#[]⟩, .bool false]) 24 rfl Try.underlying132 info157 rfl (by decide) (by omega) (.slice Al L.length cl) L (⟨s, true⟩ : S157) [.string s, .bool true] (fun _ => True) (fun _ => False) rfl rfl ?aP2 (fun _ hk => hk.elim) ?aF2 ?aO2 ?aB2 ?aS2 ?aL2 ?_
          (case aP2 => exact k157_mkM _ _ _ (⟨s, true⟩ : S157))
          (case aB2 => exact HB5.out)
          (case aF2 => exact (fun _ _ => trivial))
          (case aO2 => exact HO5.out)
          (case aS2 => exact HB5.out.size)
          (case aL2 => have := HLL.out; have := HI.out; omega)
          intro v6 w6 ho hb hg hat
          obtain ⟨A6, c6, e6⟩ := Kd.R_slice ho
          rw [List.length_append, List.length_singleton] at e6
          subst e6
          have hbx6 := blk_grown HX5.out hg (Kd.R_ne HO5.out HX5.out (by decide))
          have x0 := (blk_cell hbx6 2).trans (show _ = some (Value.slice Al L.length cl) from rfl)
          have x1 := blk_frozen hbx6 2
          have HX6 := Aside0.mk (show QBox qb A0 paper.length c0 A2 kept.length c2 (.slice A6 (L.length + 1) c6) (w6.setCell ⟨qb, 2, none⟩ (.slice A6 (L.length + 1) c6)) from blk_set hbx6 2 _)
          have HO6 := Aside0.mk (Kd.R_set ho hbx6 (by intro q hq; simp [k157, Kd.iso, Kd.pair, Kd.string, Kd.bool, Kd.scalar] at hq; subst hq; decide) 2 (.slice A6 (L.length + 1) c6))
          have HB6 := Aside0.mk (hb.setCell (p := ⟨qb, 2, none⟩) HQB.out (.slice A6 (L.length + 1) c6))
          clear ho hb hg hat hbx6
          refine hK.out _ _ (x0) (fun hHeld => ?_)
          clear hK K
          refine norm_ (a' := ?_) ?_ ?_
          rotate_left
          · show Act.put _ (some 75) _ = _
            simp only [Act.put, List.setIfInBounds_toArray, List.set_cons_zero, List.set_cons_succ, i64_w, i32_w]
            rfl
          refine pure_ (i := 18) (N := some 76) (v := ?_) (a' := ?_) #[true, true, true, true, true, true, true, true, true, true, true, true, true, true, true, true, true, true, true, false, false] rfl rfl (by kernel_rfl) (fun _ _ _ h => h) (Or.inl ⟨by rfl, ?_⟩) ?_ ?_
          rotate_left
          · intro w'
            go_simp
            with_reducible rfl
          rotate_left
          · simp only [Act.put, List.setIfInBounds_toArray, List.set_cons_zero, List.set_cons_succ, i64_w, i32_w]
            rfl
          refine pure_ (i := 19) (N := some 77) (v := ?_) (a' := ?_) #[true, true, true, true, true, true, true, true, true, true, true, true, true, true, true, true, true, true, true, true, false] rfl rfl (by kernel_rfl) (fun _ _ _ h => h) (Or.inl ⟨by rfl, ?_⟩) ?_ ?_
          rotate_left
          · intro w'
            go_simp
            with_reducible rfl
          rotate_left
          · simp only [Act.put, List.setIfInBounds_toArray, List.set_cons_zero, List.set_cons_succ, i64_w, i32_w]
            rfl
          refine last_ (i := 20) (N := none) #[true, true, true, true, true, true, true, true, true, true, true, true, true, true, true, true, true, true, true, true, true] rfl rfl (by kernel_rfl) (by decide) (fun K hK => ?_)
          refine skip_ (w1 := ?_) (by rfl) rfl ?_ ?_
          rotate_left
          · go_simp
            rfl
          refine hK.out _ _ ?_
          clear hK K
          refine done_ (by kernel_rfl) ?_
          go_wp2
          go_roundg (gk - 1)
          case measure => have := HI.out; have := HLT.out; omega
          case rel => exact ⟨false, i + 1, L ++ [⟨s, true⟩], A6, c6, by first | rfl | (simp; done), by first | rfl | rw [hw], ⟨by have := HI.out; have := HLT.out; simp; omega⟩, HPN, ⟨by rw [List.length_append, List.length_singleton]; exact HX6.out⟩, ⟨by rw [List.length_append, List.length_singleton]; exact HO6.out⟩, HB6⟩
      · have HPN := Aside0.mk (show piecesFrom true L (quotation.drop (i + 1).toNat) = R by rw [← HP.out, HD.out, piecesFrom, if_pos hg])
        have g1 : (s.toList == [46, 46, 46]) = true := hg
        have g2 : (s.toList = [46, 46, 46]) = True := by simpa using g1
        clear hg
        go_wp2
        go_roundg (gk - 1)
        case measure => have := HI.out; have := HLT.out; omega
        case rel => exact ⟨true, i + 1, L, Al, cl, by first | rfl | (simp; done), by first | rfl | rw [hw], ⟨by have := HI.out; have := HLT.out; omega⟩, HPN, HX, HO, HB⟩
theorem quote_bad (paper quotation kept : List ByteArray) (A0 : Option Addr) (c0 : Nat) (A1 : Option Addr) (c1 : Nat) (A2 : Option Addr) (c2 : Nat) (w : World)
    (h0 : Kd.C Kd.string w A0 paper.length paper) (h1 : Kd.C Kd.string w A1 quotation.length quotation) (h2 : Kd.C Kd.string w A2 kept.length kept) (h : quoteOk paper quotation kept = false) :
    Calls Try.prog 64 #[.slice A0 paper.length c0, .slice A1 quotation.length c1, .slice A2 kept.length c2] w fun e w' => e = .returned (.tuple #[.pointer none, .bool false]) ∧ Below w.heap.size w w' := by
  unfold quoteOk at h
  cases b1 : withinB paper.length 1 80
  · exact quoteBad1 paper quotation kept A0 c0 A1 c1 A2 c2 w h0 h1 h2 b1
  cases b2 : withinB quotation.length 1 80
  · exact quoteBad2 paper quotation kept A0 c0 A1 c1 A2 c2 w h0 h1 h2 b1 b2
  by_cases h3 : kept.length ≤ 20
  case neg => exact quoteBad3 paper quotation kept A0 c0 A1 c1 A2 c2 w h0 h1 h2 b1 b2 (decide_eq_true (by omega))
  have b3 : decide (20 < (kept.length : Int)) = false := decide_eq_false (by omega)
  cases b4 : paper.all wordOk
  · exact quoteBad4 paper quotation kept A0 c0 A1 c1 A2 c2 w h0 h1 h2 b1 b2 b3 b4
  cases b5 : quotation.all wordOk
  · exact quoteBad5 paper quotation kept A0 c0 A1 c1 A2 c2 w h0 h1 h2 b1 b2 b3 b4 b5
  cases b6 : kept.all wordOk
  · exact quoteBad6 paper quotation kept A0 c0 A1 c1 A2 c2 w h0 h1 h2 b1 b2 b3 b4 b5 b6
  rw [b1, b2, b4, b5, b6, decide_eq_true h3] at h
  cases h
theorem quote_good (paper quotation kept : List ByteArray) (A0 : Option Addr) (c0 : Nat) (A1 : Option Addr) (c1 : Nat) (A2 : Option Addr) (c2 : Nat) (w : World)
    (h0 : Kd.C Kd.string w A0 paper.length paper) (h1 : Kd.C Kd.string w A1 quotation.length quotation) (h2 : Kd.C Kd.string w A2 kept.length kept) (h : quoteOk paper quotation kept = true) :
    Calls Try.prog 64 #[.slice A0 paper.length c0, .slice A1 quotation.length c1, .slice A2 kept.length c2] w fun e w' => ∃ (qb : Nat) (Aq : Option Addr) (cq : Nat), e = .returned (.tuple #[.pointer (some ⟨qb, 0, none⟩), .bool (decide (0 < (piecesOf quotation).length))]) ∧
      QBox qb A0 paper.length c0 A2 kept.length c2 (.slice Aq (piecesOf quotation).length cq) w' ∧ Kd.R k157 157 w' w.heap.size (fun _ => True) (.slice Aq (piecesOf quotation).length cq) (piecesOf quotation) ∧ Below w.heap.size w w' := by
  unfold quoteOk at h
  simp only [Bool.and_eq_true] at h
  obtain ⟨⟨⟨⟨⟨b1, b2⟩, b3⟩, b4⟩, b5⟩, b6⟩ := h
  exact quoteGood _ paper quotation kept A0 c0 A1 c1 A2 c2 w h0 h1 h2 b1 b2 (decide_eq_false (by have := of_decide_eq_true b3; omega)) b4 b5 b6 rfl
end Go.Proofs.Ythpheknchikodaa.P

/- The walk of the search within Quote: the first places of the rest of a quotation, with a memo of what does not fit. Conditions: the memo's entries do not fit; the lists are of at most 80. -/
namespace Go.Proofs.Ythpheknchikodaa.P
open Go.RowKit Go.Proofs.YthpheknchikodaaW.PrintWords Go.Proofs.YthpheknchikodaaW.PrintLast
set_option linter.unusedVariables false
set_option linter.unusedSimpArgs false

/-- The first place from at_ on that may be, and behind which the rest fits. -/
def findAt (ok : Int → Bool) (next : Int → Option (List Int)) : Nat → Int → Option (List Int)
  | 0, _ => none
  | c + 1, at_ => if ok at_ = true then (match next at_ with | some r => some (at_ :: r) | none => findAt ok next c (at_ + 1)) else findAt ok next c (at_ + 1)
/-- The first places of the last d pieces, behind a place. -/
def findP (paper kept : List ByteArray) (pieces : List S157) : Nat → Int → Option (List Int)
  | 0, _ => some []
  | d + 1, last => findAt (mayB paper kept pieces ((pieces.length : Int) - ((d + 1 : Nat) : Int)) last) (findP paper kept pieces d) ((paper.length : Int) - (last + 1)).toNat (last + 1)
def lostOk (paper kept : List ByteArray) (pieces : List S157) (ks : List (Int × Int)) : Prop := ∀ q ∈ ks, findP paper kept pieces ((pieces.length : Int) - q.1).toNat q.2 = none
/-- What stands beside the places. -/
def QB (w1 : World) (B bp qb : Nat) (ks : List (Int × Int)) (W : World) : Prop :=
  Below B w1 W ∧ W.heap[B]? = some (.cells #[.pointer (some ⟨qb, 0, none⟩)] 127 (0, 0)) ∧ W.heap[B + 2]? = some (.cells #[.map (some (B + 1))] 130 (0, 0)) ∧
  W.heap[B + 4]? = some (.cells #[.func (.func 65) #[] #[.pointer (some ⟨B, 0, none⟩), .pointer (some ⟨B + 2, 0, none⟩), .pointer (some ⟨bp, 0, none⟩), .pointer (some ⟨B + 3, 0, none⟩), .pointer (some ⟨B + 4, 0, none⟩)]] 131 (0, 0)) ∧
  MapIs W (B + 1) of2 (ks.map fun q => (q, Value.bool true))
/-- The places, too. -/
def QI (w1 : World) (B bp qb : Nat) (P : List Int) (ks : List (Int × Int)) (W : World) : Prop :=
  QB w1 B bp qb ks W ∧ ∃ v, W.heap[B + 3]? = some (.cells #[v] 28 (0, 0)) ∧ Kd.R (Kd.int .i64) 3 W B (fun _ => True) v P
section
variable {w1 W W' : World} {B bp qb : Nat} {ks : List (Int × Int)} {P : List Int}
theorem QB.size (h : QB w1 B bp qb ks W) : B + 4 < W.heap.size := blk_lt h.2.2.2.1
theorem QB.below (h : QB w1 B bp qb ks W) (hb : Below W.heap.size W W') : QB w1 B bp qb ks W' := by
  have hs := h.size
  obtain ⟨h0, h1, h2, h3, h4⟩ := h
  exact ⟨below_then h0 (by omega) hb, (hb.block _ (blk_lt h1)).trans h1, (hb.block _ (blk_lt h2)).trans h2, (hb.block _ (blk_lt h3)).trans h3, h4.below hb⟩
theorem QB.grown (h : QB w1 B bp qb ks W) (hb : Below B w1 W') {row : Option Nat} (hg : W.grownBy W' row) (hr : ∀ k, row = some k → ∃ cs, W.heap[k]? = some (.cells cs 3 (0, 0))) : QB w1 B bp qb ks W' := by
  obtain ⟨h0, h1, h2, h3, h4⟩ := h
  have hne : ∀ {g : Nat} {o : Obj}, W.heap[g]? = some o → (∀ cs, o ≠ .cells cs 3 (0, 0)) → some g ≠ row := by
    intro g o hg hc e
    obtain ⟨cs, hcs⟩ := hr g e.symm
    rw [hg] at hcs
    cases hcs
    exact hc cs rfl
  refine ⟨hb, blk_grown h1 hg (hne h1 (by simp)), blk_grown h2 hg (hne h2 (by simp)), blk_grown h3 hg (hne h3 (by simp)), h4.of_block ?_⟩
  obtain ⟨es, c, hm, _⟩ := h4
  exact hg.block _ (blk_lt hm) (hne hm (by simp))
theorem QB.far (h : QB w1 B bp qb ks W) (u : Value) : QB w1 B bp qb ks (W.setCell ⟨B + 3, 0, none⟩ u) := by
  obtain ⟨h0, h1, h2, h3, h4⟩ := h
  refine ⟨h0.setCell (p := ⟨B + 3, 0, none⟩) (by simp) u, blk_far h1 (by simp) u, blk_far h2 (by simp) u, blk_far h3 (by simp) u, h4.of_block (Below.heap_setCell W _ u _ (by simp))⟩
theorem QB.mark (h : QB w1 B bp qb ks W) {ks' : List (Int × Int)} (hm : MapIs W' (B + 1) of2 (ks'.map fun q => (q, Value.bool true))) (hg : W.grownBy W' (some (B + 1))) : QB w1 B bp qb ks' W' := by
  have hs := h.size
  obtain ⟨h0, h1, h2, h3, h4⟩ := h
  exact ⟨pw_below_grown h0 _ (by omega) hg (by rintro k e; cases e; omega), blk_grown h1 hg (by simp), blk_grown h2 hg (by simp), blk_grown h3 hg (by simp), hm⟩
theorem QI.below (h : QI w1 B bp qb P ks W) (hb : Below W.heap.size W W') : QI w1 B bp qb P ks W' := by
  obtain ⟨h0, v, h1, h2⟩ := h
  exact ⟨h0.below hb, v, (hb.block _ (blk_lt h1)).trans h1, Kd.R_below h2 hb⟩
theorem QI.mark (h : QI w1 B bp qb P ks W) {ks' : List (Int × Int)} (hm : MapIs W' (B + 1) of2 (ks'.map fun q => (q, Value.bool true))) (hg : W.grownBy W' (some (B + 1))) : QI w1 B bp qb P ks' W' := by
  obtain ⟨h0, v, h1, h2⟩ := h
  refine ⟨h0.mark hm hg, v, blk_grown h1 hg (by simp), ?_⟩
  obtain ⟨es, c, hmm, _⟩ := h0.2.2.2.2
  refine Kd.R_mono (Kd.R_grown (Kd.R_bound h2) hg (fun k hk e => ?_)) (fun _ _ => trivial)
  cases e
  obtain ⟨_, _, _, q, _, cells, hcs⟩ := hk
  rw [hmm] at hcs
  cases hcs
end
theorem kput_true {κ : Type} [DecidableEq κ] (x : κ) : ∀ ks : List κ, ∃ ks' : List κ, kput x (.bool true) (ks.map fun q => (q, Value.bool true)) = ks'.map (fun q => (q, Value.bool true)) ∧ ∀ q ∈ ks', q ∈ ks ∨ q = x
  | [] => ⟨[x], rfl, fun q h => .inr (by simpa using h)⟩
  | k :: ks => by
    obtain ⟨ks', h1, h2⟩ := kput_true x ks
    simp only [List.map_cons, kput]
    by_cases h : x = k
    · rw [if_pos h]
      exact ⟨k :: ks, rfl, fun q hq => .inl hq⟩
    · rw [if_neg h, h1]
      refine ⟨k :: ks', rfl, fun q hq => ?_⟩
      rcases List.mem_cons.1 hq with e | e
      · exact .inl (by simp [e])
      · rcases h2 q e with e2 | e2
        · exact .inl (by simp [e2])
        · exact .inr e2
/-- What the search answers. -/
def FR (w1 : World) (B bp qb : Nat) (paper kept : List ByteArray) (pieces : List S157) (P : List Int) (r : Option (List Int)) (e : Ending) (W' : World) : Prop :=
  ∃ ks', lostOk paper kept pieces ks' ∧ ((∃ l, r = some l ∧ e = .returned (.bool true) ∧ QI w1 B bp qb (P ++ l) ks' W') ∨ (r = none ∧ e = .returned (.bool false) ∧ QI w1 B bp qb P ks' W'))
/-- What stands behind an append, and behind its store. -/
theorem push_facts {w1 w2 w3 : World} {B bp qb : Nat} {ks : List (Int × Int)} {P : List Int} {i : Int} {v v3 : Value} (h : QI w1 B bp qb P ks w2) (hv : w2.heap[B + 3]? = some (.cells #[v] 28 (0, 0))) (hr : Kd.R (Kd.int .i64) 3 w2 B (fun _ => True) v P)
    (hb : Below B w1 w3) (hg : w2.grownBy w3 v.ownBlock) (ho : Kd.R (Kd.int .i64) 3 w3 B (fun _ => True) v3 (P ++ [i])) :
    Aside0 (QI w1 B bp qb (P ++ [i]) ks (w3.setCell ⟨B + 3, 0, none⟩ v3)) ∧ w3.cell? ⟨B + 3, 0, none⟩ = some v ∧ w3.frozen? ⟨B + 3, 0, none⟩ = false ∧
    w3.cell? ⟨B + 4, 0, none⟩ = some (.func (.func 65) #[] #[.pointer (some ⟨B, 0, none⟩), .pointer (some ⟨B + 2, 0, none⟩), .pointer (some ⟨bp, 0, none⟩), .pointer (some ⟨B + 3, 0, none⟩), .pointer (some ⟨B + 4, 0, none⟩)]) := by
  have hbox : w3.heap[B + 3]? = some (.cells #[v] 28 (0, 0)) := blk_grown hv hg (Kd.R_ne hr hv (by decide))
  have hQ : QB w1 B bp qb ks w3 := h.1.grown hb hg (fun k hk => Kd.R_typed hr k hk)
  have hQ2 := hQ.far v3
  exact ⟨⟨hQ2, v3, blk_set hbox 0 v3, Kd.R_set ho hbox (by simp [Kd.int, Kd.scalar]) 0 v3⟩, blk_cell hbox 0, blk_frozen hbox 0, blk_cell hQ.2.2.2.1 0⟩
theorem pop_facts {w1 w5 : World} {B bp qb : Nat} {ks : List (Int × Int)} {P : List Int} {i : Int} {A : Option Addr} {c : Nat} (h : QB w1 B bp qb ks w5) (hv : w5.heap[B + 3]? = some (.cells #[.slice A (P.length + 1) c] 28 (0, 0)))
    (hr : Kd.R (Kd.int .i64) 3 w5 B (fun _ => True) (.slice A (P.length + 1) c) (P ++ [i])) : QI w1 B bp qb P ks (w5.setCell ⟨B + 3, 0, none⟩ (.slice A P.length c)) := by
  refine ⟨h.far _, _, blk_set hv 0 _, ?_⟩
  have ht := Kd.R_take (m := P.length) hr (by simp)
  rw [List.take_left'] at ht
  · exact Kd.R_set ht hv (by simp [Kd.int, Kd.scalar]) 0 _
  · rfl
set_option maxHeartbeats 4000000 in
set_option maxRecDepth 100000 in
theorem find_calls (w1 : World) (B bp qb : Nat) (Ap : Option Addr) (cp : Nat) (paper : List ByteArray) (Ak : Option Addr) (ck : Nat) (kept : List ByteArray) (Aq : Option Addr) (cq : Nat) (pieces : List S157)
    (hB : w1.heap.size = B) (hbp : w1.heap[bp]? = some (.cells #[.slice Ap paper.length cp] 73 (0, 0)))
    (hq : w1.heap[qb]? = some (.cells #[.slice Ap paper.length cp, .slice Ak kept.length ck, .slice Aq pieces.length cq] 134 (0, 0)))
    (hp : Kd.C Kd.string w1 Ap paper.length paper) (hcp : paper.length ≤ cp) (hk : Kd.C Kd.string w1 Ak kept.length kept) (hpp : Kd.C k157 w1 Aq pieces.length pieces)
    (hs : ∀ n, (rd_T157 pieces n).f0.size ≤ 9223372036854775807) (hlp : paper.length ≤ 80) (hlk : kept.length ≤ 80) (hlq : pieces.length ≤ 80) :
    ∀ (d : Nat) (n last : Int) (P : List Int) (ks : List (Int × Int)) (W : World), n = (pieces.length : Int) - d → 0 ≤ n → -1 ≤ last → last < (paper.length : Int) → (P.length : Int) = n → lostOk paper kept pieces ks → QI w1 B bp qb P ks W →
      Calls Try.prog 65 #[.int .i64 n, .int .i64 last, .pointer (some ⟨B, 0, none⟩), .pointer (some ⟨B + 2, 0, none⟩), .pointer (some ⟨bp, 0, none⟩), .pointer (some ⟨B + 3, 0, none⟩), .pointer (some ⟨B + 4, 0, none⟩)] W
        (FR w1 B bp qb paper kept pieces P (findP paper kept pieces d last)) := by
  have HBB := Aside0.mk hB
  have HBP := Aside0.mk hbp
  have HQ := Aside0.mk hq
  have HP := Aside0.mk hp
  have HCP := Aside0.mk hcp
  have HK := Aside0.mk hk
  have HPP := Aside0.mk hpp
  have HS := Aside0.mk hs
  have HLP := Aside0.mk hlp
  have HLK := Aside0.mk hlk
  have HLQ := Aside0.mk hlq
  have hbel : ∀ {W : World}, Below B w1 W → Below w1.heap.size w1 W := fun h => by rw [HBB.out]; exact h
  have HBEL := Aside0.mk @hbel
  clear hB hbp hq hp hcp hk hpp hs hlp hlk hlq hbel
  intro d
  induction d with
  | zero =>
    intro n last P ks W hn hn0 hl0 hl1 hPn hlost hI
    obtain rfl : n = (pieces.length : Int) := by omega
    have HI := Aside0.mk hI
    have HLO := Aside0.mk hlost
    have hw := HBEL.out hI.1.1
    have c0 := (blk_cell hI.1.2.1 0).trans (show _ = some (Value.pointer (some ⟨qb, 0, none⟩)) from rfl)
    have c1 := pw_cell_below hw ((blk_cell HQ.out 2).trans (show _ = some (Value.slice Aq pieces.length cq) from rfl))
    have hu134 := Try.underlying134
    clear hI hlost hw hn hn0 hl0 hl1 hPn
    go_enter Try.func65, Try.ntmps65
    go_wp2
    go_ret
    exact ⟨ks, HLO.out, .inl ⟨[], rfl, rfl, by rw [List.append_nil]; exact HI.out⟩⟩
  | succ d ih =>
    intro n last P ks W hn hn0 hl0 hl1 hPn hlost hI
    have IH := Aside0.mk ih
    have HN := Aside0.mk hn
    have HI := Aside0.mk hI
    have HLO := Aside0.mk hlost
    have HPN := Aside0.mk hPn
    have HL := Aside0.mk (show -1 ≤ last ∧ last < (paper.length : Int) from ⟨hl0, hl1⟩)
    have HN0 := Aside0.mk (show 0 ≤ n ∧ n < (pieces.length : Int) from ⟨hn0, by omega⟩)
    have hw := HBEL.out hI.1.1
    have c0 := (blk_cell hI.1.2.1 0).trans (show _ = some (Value.pointer (some ⟨qb, 0, none⟩)) from rfl)
    have c1 := pw_cell_below hw ((blk_cell HQ.out 2).trans (show _ = some (Value.slice Aq pieces.length cq) from rfl))
    have c2 := (blk_cell hI.1.2.2.1 0).trans (show _ = some (Value.map (some (B + 1))) from rfl)
    have HM := Aside0.mk hI.1.2.2.2.2
    have hne : (n == (pieces.length : Int)) = false := beq_eq_false_iff_ne.mpr (by have := HN0.out; omega)
    have hu134 := Try.underlying134
    have hu136 := Try.underlying136
    have hl2 : last ≤ 80 := by have := HLP.out; omega
    have hn2 : n ≤ 80 := by have := HLQ.out; have := HN0.out; omega
    clear ih hn hI hlost hPn hw hl1
    by_cases hin : (n, last) ∈ ks
    · have HG := Aside0.mk (show kget (n, last) (.bool false) (ks.map fun q => (q, Value.bool true)) = .bool true by rw [kget_keys]; simp [hin])
      have HF := Aside0.mk (show findP paper kept pieces (d + 1) last = none by
        have h := HLO.out (n, last) hin
        have e : ((pieces.length : Int) - n).toNat = d + 1 := by have := HN.out; omega
        simp only [e] at h
        exact h)
      clear hin
      go_enter Try.func65, Try.ntmps65
      go_wp2_with (at_lookup; refine map_lookup _ rfl _ _ 130 136 4 rfl of2 (B + 1) _ (n, last) (.bool false) rfl rfl Try.underlying130 (Try.zeroValue4 _) fit136 HM.out ?_; rw [HG.out])
      go_ret
      exact ⟨ks, HLO.out, .inr ⟨HF.out, rfl, HI.out⟩⟩
    · have HG := Aside0.mk (show kget (n, last) (.bool false) (ks.map fun q => (q, Value.bool true)) = .bool false by rw [kget_keys]; simp [hin])
      clear hin
      obtain ⟨N, hN⟩ : ∃ N : Int → Option (List Int), N = findP paper kept pieces d := ⟨_, rfl⟩
      obtain ⟨O, hO⟩ : ∃ O : Int → Bool, O = mayB paper kept pieces n last := ⟨_, rfl⟩
      have HNN := Aside0.mk hN
      have HOO := Aside0.mk hO
      have HF := Aside0.mk (show findP paper kept pieces (d + 1) last = findAt O N ((paper.length : Int) - (last + 1)).toNat (last + 1) by
        rw [hN, hO, HN.out]; rfl)
      clear hN hO
      go_enter Try.func65, Try.ntmps65
      go_wp2_with (at_lookup; refine map_lookup _ rfl _ _ 130 136 4 rfl of2 (B + 1) _ (n, last) (.bool false) rfl rfl Try.underlying130 (Try.zeroValue4 _) fit136 HM.out ?_; rw [HG.out])
      go_loopg [10] paper.length (fun kq v10 w' => ∃ i : Int, v10 = .int .i64 i ∧ Aside0 (last + 1 ≤ i ∧ i ≤ (paper.length : Int) ∧ paper.length ≤ kq + i.toNat) ∧ Aside0 (∃ ks', lostOk paper kept pieces ks' ∧ QI w1 B bp qb P ks' w') ∧ Aside0 (findP paper kept pieces (d + 1) last = findAt O N ((paper.length : Int) - i).toNat i))
      case atStart => exact ⟨last + 1, by first | rfl | skip, ⟨by omega, by have := HL.out; omega, by have := HL.out; omega⟩, ⟨ks, HLO.out, HI.out⟩, HF⟩
      case round =>
        obtain ⟨i, rfl, HJ, HI2, HFF⟩ := hrel
        obtain ⟨ks', hlo', hi'⟩ := HI2.out
        have HLO' := Aside0.mk hlo'
        have HI' := Aside0.mk hi'
        have hw := HBEL.out hi'.1.1
        have HW := Aside0.mk hw
        have d0 := (blk_cell hi'.1.2.1 0).trans (show _ = some (Value.pointer (some ⟨qb, 0, none⟩)) from rfl)
        have d1 := pw_cell_below hw ((blk_cell HBP.out 0).trans (show _ = some (Value.slice Ap paper.length cp) from rfl))
        have d2 := (blk_cell hi'.1.2.2.1 0).trans (show _ = some (Value.map (some (B + 1))) from rfl)
        have HM' := Aside0.mk hi'.1.2.2.2.2
        clear hw hi' hlo' HI2 c0 c1 c2
        by_cases hlt : i < (paper.length : Int)
        case neg =>
          have e0 : decide (i < (paper.length : Int)) = false := decide_eq_false hlt
          have HFN := Aside0.mk (show findP paper kept pieces (d + 1) last = none by
            rw [HFF.out, show ((paper.length : Int) - i).toNat = 0 by omega]; rfl)
          obtain ⟨ks2, hk2, hk3⟩ := kput_true (n, last) ks'
          have HK2 := Aside0.mk hk2
          have HLO2 := Aside0.mk (show lostOk paper kept pieces ks2 by
            intro q hq
            rcases hk3 q hq with h | h
            · exact HLO'.out q h
            · subst h
              have e : ((pieces.length : Int) - n).toNat = d + 1 := by have := HN.out; omega
              simp only [e]
              exact HFN.out)
          clear hlt hk2 hk3
          go_wp2_with (at_mapUpdate; refine map_store _ rfl _ _ _ 130 136 4 rfl of2 (B + 1) _ (n, last) (.bool true) rfl rfl rfl Try.underlying130 fit136 HM'.out ?_; intro w3 hm hg; rw [HK2.out] at hm; have HI3 := Aside0.mk (HI'.out.mark hm hg); clear hm hg)
          go_ret
          exact ⟨ks2, HLO2.out, .inr ⟨HFN.out, rfl, HI3.out⟩⟩
        case pos =>
          have e0 : decide (i < (paper.length : Int)) = true := decide_eq_true hlt
          have HI0 := Aside0.mk (show -1 ≤ last ∧ last + 1 ≤ i ∧ i < (paper.length : Int) ∧ 0 ≤ i from ⟨HL.out.1, HJ.out.1, hlt, by have := HL.out; have := HJ.out; omega⟩)
          have hi0 : 0 ≤ i := HI0.out.2.2.2
          have hi1 : i ≤ 80 := by have := HLP.out; omega
          have hw1 : wrap64 (i + 1) = i + 1 := by unfold wrap64; omega
          have HC : ((paper.length : Int) - i).toNat = ((paper.length : Int) - (i + 1)).toNat + 1 := by omega
          have HMAY := Aside0.mk (may_calls qb Ap cp paper Ak ck kept Aq cq pieces n last i wr ((HW.out.block _ (blk_lt HQ.out)).trans HQ.out) (Kd.C_below HP.out HW.out) HCP.out (Kd.C_below HK.out HW.out) (Kd.C_below HPP.out HW.out) HN0.out.1 HN0.out.2 HL.out.1 (HS.out n) (by have := HLP.out; omega) (by have := HLK.out; omega))
          rw [HC] at HFF
          cases hm : mayB paper kept pieces n last i
          · have HFN := Aside0.mk (show findP paper kept pieces (d + 1) last = findAt O N ((paper.length : Int) - (i + 1)).toNat (i + 1) by
              rw [HFF.out, findAt, HOO.out, hm, if_neg (by simp)])
            rw [hm] at HMAY
            clear hlt hm HC
            go_wp2_with (go_at_call 66; (with_reducible refine (HMAY.out).mono ?_); rintro e w2 ⟨rfl, hb⟩; have HI3 := Aside0.mk (HI'.out.below hb); clear hb)
            go_roundg (gk - 1)
            case measure => have := HJ.out; have := HI0.out; omega
            case rel => exact ⟨i + 1, by first | rfl | rw [hw1], ⟨by have := HI0.out; omega, by have := HI0.out; omega, by have := HJ.out; have := HI0.out; omega⟩, ⟨ks', HLO'.out, HI3.out⟩, HFN⟩
          · rw [hm] at HMAY
            have HOI := Aside0.mk (show O i = true by rw [HOO.out]; exact hm)
            clear hlt hm HC
            have HLL := Aside0.mk (show P.length ≤ 80 by have := HPN.out; omega)
            have hnw : 0 ≤ n := hn0
            go_wp2_with (first | (go_at_call 66; (with_reducible refine (HMAY.out).mono ?_); rintro e w2 ⟨rfl, hb⟩; have HI3 := Aside0.mk (HI'.out.below hb); clear hb; obtain ⟨v, hv1, hv2⟩ := HI3.out.2; obtain ⟨Ao, co, eo⟩ := Kd.R_slice hv2; subst eo; have HV1 := Aside0.mk hv1; have HV2 := Aside0.mk hv2; have s0 := (blk_cell hv1 0).trans (show _ = some (Value.slice Ao P.length co) from rfl); clear hv1 hv2) | ((with_reducible refine gate_builtin (b := .append) (xs := #[.tmp 37, .tmp 39]) rfl ?_); at_builtin; refine Kd.R_append (Kd.int .i64) (w0 := w1) B rfl (.tmp 37) (.tmp 39) 28 3 (.int .i64 0) 8 rfl Try.underlying28 info3 rfl (by decide) (by omega) (.slice Ao P.length co) P i [.int .i64 i] (fun _ => True) (fun _ => False) rfl rfl ?aP (fun _ hk => hk.elim) ?aF ?aO ?aB ?aS ?aL ?_; (case aP => exact rfl); (case aB => exact HI3.out.1.1); (case aF => exact (fun _ _ => trivial)); (case aO => exact HV2.out); (case aS => exact (by have := HI3.out.1.size; omega)); (case aL => have := HLL.out; omega); intro v3 w3 ho hb hg hat; obtain ⟨A3, c3, eo3⟩ := Kd.R_slice ho; rw [List.length_append, List.length_singleton] at eo3; subst eo3; obtain ⟨HI4, t0, t1, t2⟩ := push_facts HI3.out HV1.out HV2.out hb hg ho; clear ho hb hg hat))
            refine (IH.out (n + 1) i (P ++ [i]) ks' _ (by have := HN.out; omega) (by omega) (by have := HI0.out; omega) HI0.out.2.2.1 (by rw [List.length_append]; have := HPN.out; simp; omega) HLO'.out HI4.out).mono ?_
            rintro e w5 ⟨ks5, hlo5, h5⟩
            rcases h5 with ⟨l, hl, rfl, hq5⟩ | ⟨hl, rfl, hq5⟩
            · have HFN := Aside0.mk (show findP paper kept pieces (d + 1) last = some (i :: l) by
                rw [HFF.out, findAt, if_pos HOI.out, HNN.out, hl])
              have HQ5 := Aside0.mk (show QI w1 B bp qb (P ++ (i :: l)) ks5 w5 by rw [List.append_cons]; exact hq5)
              have HLO5 := Aside0.mk hlo5
              clear hl hq5 hlo5
              go_wp2
              go_ret
              exact ⟨ks5, HLO5.out, .inl ⟨_, HFN.out, rfl, HQ5.out⟩⟩
            · have HFN := Aside0.mk (show findP paper kept pieces (d + 1) last = findAt O N ((paper.length : Int) - (i + 1)).toNat (i + 1) by
                rw [HFF.out, findAt, if_pos HOI.out, HNN.out, hl])
              obtain ⟨v5, hv5, hr5⟩ := hq5.2
              obtain ⟨A5, c5, eo5⟩ := Kd.R_slice hr5
              subst eo5
              obtain ⟨hlc, hcc⟩ : (P ++ [i]).length = P.length + 1 ∧ P.length + 1 ≤ c5 := ⟨by simp, by have := (Kd.R_reads' hr5).2.1; simp at this; exact this⟩
              rw [hlc] at hv5 hr5
              have HP5 := Aside0.mk (pop_facts hq5.1 hv5 hr5)
              have x0 := (blk_cell hv5 0).trans (show _ = some (Value.slice A5 (P.length + 1) c5) from rfl)
              have x1 := blk_frozen hv5 0
              have HLO5 := Aside0.mk hlo5
              have hwp : wrap64 (P.length : Int) = (P.length : Int) := by unfold wrap64; have := HLL.out; omega
              obtain ⟨i3, hi3, _, _, _⟩ := info_parts info3
              have hsl := cut_to (P := Try.prog) 28 3 .i64 Try.underlying28 hi3 A5 (P.length + 1) c5 (P.length : Int) (by omega) (by omega) hcc
              rw [Int.toNat_natCast] at hsl
              clear hl hq5 hlo5 hlc hv5 hr5 hi3
              go_wp2
              go_roundg (gk - 1)
              case measure => have := HJ.out; have := HI0.out; omega
              case rel => exact ⟨i + 1, by first | rfl | rw [hw1], ⟨by have := HI0.out; omega, by have := HI0.out; omega, by have := HJ.out; have := HI0.out; omega⟩, ⟨ks5, HLO5.out, HP5.out⟩, HFN⟩
end Go.Proofs.Ythpheknchikodaa.P

/- The walk of Quote: the first places of a quotation, or the error. Conditions: none beyond the lists' being readable. -/
namespace Go.Proofs.Ythpheknchikodaa.P
open Go.RowKit Go.Proofs.YthpheknchikodaaW.PrintWords Go.Proofs.YthpheknchikodaaW.PrintLast
set_option linter.unusedVariables false
set_option linter.unusedSimpArgs false

def office_Quote.f (paper quotation kept : List ByteArray) : Option (List Int × Int) :=
  if quoteOk paper quotation kept = true then
    if 0 < (piecesOf quotation).length then (match findP paper kept (piecesOf quotation) (piecesOf quotation).length (-1) with | some l => some (l, 0) | none => some ([], 7))
    else some ([], 1)
  else some ([], 1)
theorem piecesFrom_len (l : List ByteArray) : ∀ (b : Bool) (L : List S157), (piecesFrom b L l).length ≤ L.length + l.length := by
  induction l with
  | nil => intro b L; simp [piecesFrom]
  | cons s l ih =>
    intro b L
    unfold piecesFrom
    split
    · have := ih true L; simp; omega
    · have := ih false (L ++ [⟨s, b || decide (L.length = 0)⟩]); simp at this ⊢; omega
theorem piecesFrom_mem (l : List ByteArray) : ∀ (b : Bool) (L : List S157) (x : S157), x ∈ piecesFrom b L l → x ∈ L ∨ x.f0 ∈ l := by
  induction l with
  | nil => intro b L x h; exact .inl h
  | cons s l ih =>
    intro b L x h
    unfold piecesFrom at h
    split at h
    · rcases ih _ _ _ h with h | h
      · exact .inl h
      · exact .inr (List.mem_cons_of_mem _ h)
    · rcases ih _ _ _ h with h | h
      · rcases List.mem_append.1 h with h | h
        · exact .inl h
        · simp at h
          exact .inr (by rw [h]; simp)
      · exact .inr (List.mem_cons_of_mem _ h)
theorem quoteOk_facts {paper quotation kept : List ByteArray} (h : quoteOk paper quotation kept = true) : paper.length ≤ 80 ∧ 1 ≤ paper.length ∧ quotation.length ≤ 80 ∧ kept.length ≤ 20 ∧ (∀ n, (rd_T157 (piecesOf quotation) n).f0.size ≤ 32) ∧ (piecesOf quotation).length ≤ 80 := by
  unfold quoteOk at h
  simp only [Bool.and_eq_true] at h
  obtain ⟨⟨⟨⟨⟨b1, b2⟩, b3⟩, b4⟩, b5⟩, b6⟩ := h
  unfold withinB at b1 b2
  simp at b1 b2 b3
  have hl := piecesFrom_len quotation false []
  refine ⟨by omega, by omega, by omega, by omega, fun n => ?_, by unfold piecesOf; simp at hl; omega⟩
  unfold rd_T157
  by_cases hn : n.toNat < (piecesOf quotation).length
  · rw [List.getD_eq_getElem?_getD, List.getElem?_eq_getElem hn, Option.getD_some]
    rcases piecesFrom_mem quotation false [] _ (List.getElem_mem hn) with h | h
    · cases h
    · have hw := List.all_eq_true.1 b5 _ h
      unfold wordOk textOk withinB at hw
      simp at hw
      omega
  · rw [List.getD_eq_getElem?_getD, List.getElem?_eq_none (by omega)]
    decide
theorem qi_start (w2 : World) (bp qb : Nat) : QI w2 w2.heap.size bp qb [] [] (((((w2.alloc (.cells #[.pointer (some ⟨qb, 0, none⟩)] 127)).alloc (.map #[] 0)).alloc (.cells #[.map (some (w2.heap.size + 1))] 130)).alloc (.cells #[.slice none 0 0] 28)).alloc
    (.cells #[.func (.func 65) #[] #[.pointer (some ⟨w2.heap.size, 0, none⟩), .pointer (some ⟨w2.heap.size + 2, 0, none⟩), .pointer (some ⟨bp, 0, none⟩), .pointer (some ⟨w2.heap.size + 3, 0, none⟩), .pointer (some ⟨w2.heap.size + 4, 0, none⟩)]] 131)) := by
  have al : ∀ {w : World} {g : Nat} {o : Obj} (h : w.heap[g]? = some o) (O : Obj), (w.alloc O).heap[g]? = some o := fun h O => (((Below.refl _ _).alloc (Nat.le_refl _) O).block _ (blk_lt h)).trans h
  have nw : ∀ (w : World) (o : Obj) (k : Nat), w.heap.size = k → (w.alloc o).heap[k]? = some o := fun w o k h => by rw [← h]; exact blk_new w o
  refine ⟨⟨below_alloc (below_alloc (below_alloc (below_alloc (below_alloc (Below.refl _ _) _) _) _) _) _, ?_, ?_, ?_, ?_⟩, _, ?_, Kd.R_nil _ _ _ _ _⟩
  · exact al (al (al (al (nw _ _ _ rfl) _) _) _) _
  · exact al (al (nw _ _ _ (by simp)) _) _
  · exact nw _ _ _ (by simp)
  · exact ⟨#[], 0, al (al (al (nw _ _ _ (by simp)) _) _) _, rfl⟩
  · exact al (nw _ _ _ (by simp)) _
set_option maxHeartbeats 4000000 in
set_option maxRecDepth 100000 in
theorem office_Quote.calls (A0 : Option Addr) (c0 : Nat) (l0 : List ByteArray) (A1 : Option Addr) (c1 : Nat) (l1 : List ByteArray) (A2 : Option Addr) (c2 : Nat) (l2 : List ByteArray) (r1 : List Int) (r2 : Int) (w : World)
    (hr0 : Kd.C Kd.string w A0 l0.length l0) (hc0 : l0.length ≤ c0) (hr1 : Kd.C Kd.string w A1 l1.length l1) (hc1 : l1.length ≤ c1) (hr2 : Kd.C Kd.string w A2 l2.length l2) (hc2 : l2.length ≤ c2) (h : office_Quote.f l0 l1 l2 = some (r1, r2)) :
    Calls Try.prog 35 #[.slice A0 l0.length c0, .slice A1 l1.length c1, .slice A2 l2.length c2] w fun e w' => ∃ v0_ : Value, e = .returned (.tuple #[v0_, .int .i64 r2]) ∧ Kd.R (Kd.int .i64) 3 w' w.heap.size (fun _ => True) v0_ r1 ∧ Below w.heap.size w w' := by
  have HB0 := fun O => Aside0.mk ((Below.refl w.heap.size w).alloc (Nat.le_refl _) O)
  have HR0 := Aside0.mk hr0
  have HR1 := Aside0.mk hr1
  have HR2 := Aside0.mk hr2
  have HC0 := Aside0.mk hc0
  have hmm := @run_makeMap Try.prog
  clear hr0 hr1 hr2 hc0 hc1 hc2
  unfold office_Quote.f at h
  by_cases hok : quoteOk l0 l1 l2 = true
  case neg =>
    rw [if_neg hok] at h
    have HOK := Aside0.mk (Bool.eq_false_iff.2 hok)
    clear hok
    cases h
    go_enter Try.func35, Try.ntmps35
    go_wp2_with (go_at_call 64; (refine (quote_bad l0 l1 l2 A0 c0 A1 c1 A2 c2 _ (Kd.C_below HR0.out (HB0 _).out) (Kd.C_below HR1.out (HB0 _).out) (Kd.C_below HR2.out (HB0 _).out) HOK.out).mono ?_); rintro e w2 ⟨rfl, hb⟩; have HB2 := Aside0.mk (below_then (HB0 _).out (HB0 _).out.size hb); clear hb)
    refine bodyPost_ret (results_tmp2 rfl _ _ _) rfl ?_
    exact ⟨_, rfl, Kd.R_nil _ _ _ _ _, below_alloc HB2.out _⟩
  case pos =>
    rw [if_pos hok] at h
    have HOK := Aside0.mk hok
    clear hok
    by_cases hl : 0 < (piecesOf l1).length
    case neg =>
      rw [if_neg hl] at h
      cases h
      have hl2 : decide (0 < (piecesOf l1).length) = false := decide_eq_false hl
      clear hl
      go_enter Try.func35, Try.ntmps35
      go_wp2_with (go_at_call 64; (refine (quote_good l0 l1 l2 A0 c0 A1 c1 A2 c2 _ (Kd.C_below HR0.out (HB0 _).out) (Kd.C_below HR1.out (HB0 _).out) (Kd.C_below HR2.out (HB0 _).out) HOK.out).mono ?_); rintro e w2 ⟨qb, Aq, cq, rfl, hx, ho, hb⟩; rw [hl2]; have HBX := Aside0.mk (below_then (HB0 _).out (HB0 _).out.size hb); clear hx ho hb)
      refine bodyPost_ret (results_tmp2 rfl _ _ _) rfl ?_
      exact ⟨_, rfl, Kd.R_nil _ _ _ _ _, below_alloc HBX.out _⟩
    case pos =>
      rw [if_pos hl] at h
      have HF := Aside0.mk h
      clear h
      have hl2 : decide (0 < (piecesOf l1).length) = true := decide_eq_true hl
      have HL := Aside0.mk hl
      clear hl
      go_enter Try.func35, Try.ntmps35
      go_wp2_with (go_at_call 64; (refine (quote_good l0 l1 l2 A0 c0 A1 c1 A2 c2 _ (Kd.C_below HR0.out (HB0 _).out) (Kd.C_below HR1.out (HB0 _).out) (Kd.C_below HR2.out (HB0 _).out) HOK.out).mono ?_); rintro e w2 ⟨qb, Aq, cq, rfl, hx, ho, hb⟩; rw [hl2]; have HX := Aside0.mk hx; have HO := Aside0.mk ho; have HBX := Aside0.mk hb; have HB2 := Aside0.mk (below_then (HB0 _).out (HB0 _).out.size hb); have HBP := Aside0.mk ((hb.block w.heap.size (by simp)).trans (blk_new w _)); clear hx ho hb)
      obtain ⟨q1, q2, q3, q4, q5, q6⟩ := quoteOk_facts HOK.out
      refine (find_calls w2 w2.heap.size w.heap.size qb A0 c0 l0 A2 c2 l2 Aq cq (piecesOf l1) rfl HBP.out HX.out (Kd.C_below HR0.out HB2.out) HC0.out (Kd.C_below HR2.out HB2.out) (Kd.R_reads' HO.out).2.2 (fun n => Nat.le_trans (q5 n) (by decide)) q1 (by omega) q6 (piecesOf l1).length 0 (-1) [] [] _ (by omega) (by omega) (by omega) (by omega) (by simp) (fun q hq => by cases hq) (qi_start w2 w.heap.size qb)).mono ?_
      rintro e w5 ⟨ks, hlo, h5⟩
      clear hlo q1 q2 q3 q4 q5 q6
      rcases h5 with ⟨l, hl, rfl, hq5⟩ | ⟨hl, rfl, hq5⟩
      · have hf := HF.out
        rw [hl] at hf
        cases hf
        obtain ⟨v5, hv5, hr5⟩ := hq5.2
        obtain ⟨A5, c5, eo5⟩ := Kd.R_slice hr5
        subst eo5
        have x0 := (blk_cell hv5 0).trans (show _ = some (Value.slice A5 (([] : List Int) ++ r1).length c5) from rfl)
        rw [List.nil_append] at x0 hr5
        have HR5 := Aside0.mk (Kd.R_lower hr5 HB2.out.size)
        have HB5 := Aside0.mk (below_then HB2.out HB2.out.size hq5.1.1)
        clear hl hq5 hr5 hv5
        go_wp2
        refine bodyPost_ret (results_tmp2 rfl _ _ _) rfl ?_
        exact ⟨_, rfl, HR5.out, HB5.out⟩
      · have hf := HF.out
        rw [hl] at hf
        cases hf
        have HB5 := Aside0.mk (below_then HB2.out HB2.out.size hq5.1.1)
        clear hl hq5
        go_wp2
        refine bodyPost_ret (results_tmp2 rfl _ _ _) rfl ?_
        exact ⟨_, rfl, Kd.R_nil _ _ _ _ _, HB5.out⟩
end Go.Proofs.Ythpheknchikodaa.P
