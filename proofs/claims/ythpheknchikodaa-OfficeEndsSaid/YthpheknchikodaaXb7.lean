/- Contracts of functions that the laws reach, part Xb7. Conditions: each theorem names its own. -/
import Derived.Shelf.SlSortCmp.NoneTotal
import Derived.Shelf.SlGeneric
import Derived.Ground.SlsfProg
import Derived.RangeFuncNested
import Derived.RangeFuncBound
import Derived.RangeFuncCalls
import Derived.RangeFuncLeaves
import Derived.Shelf.Abstract
import Derived.Shelf.RegionOpen
import Derived.OwnWalkIn
import Derived.TacticsInMore
import Derived.LoopNIn
import Derived.LoopIn
import Derived.Handy
import Derived.Test.YthpheknchikodaaXb5
import Derived.Test.YthpheknchikodaaXb3
import Derived.Test.YthpheknchikodaaXb6
import Derived.Test.YthpheknchikodaaProg
import Derived.Test.YthpheknchikodaaXb1
import Derived.Test.YthpheknchikodaaXb2
/- The walk of the search within Quote: the first places of the rest of a quotation, with a memo of what does not fit. Conditions: the memo's entries do not fit; the lists are of at most 80. -/
namespace Go.Proofs.Ythpheknchikodaa.P
open Go.RowKit Go.Proofs.YthpheknchikodaaW.PrintWords Go.Proofs.YthpheknchikodaaW.PrintLast
set_option linter.unusedVariables false
set_option linter.unusedSimpArgs false

/-- The first place from at_ on that may be, and behind which the rest fits. -/
def findAt (ok : Int → Bool) (next : Int → Option (List Int)) : Nat → Int → Option (List Int)
  | 0, _ => none
  | c + 1, at_ => if ok at_ = true then (match next at_ with | some r => some (at_ :: r) | none => findAt ok next c (at_ + 1)) else findAt ok next c (at_ + 1)
/-- The first places of the last d pieces, behind a place. -/
def findP (paper kept : List ByteArray) (pieces : List S157) : Nat → Int → Option (List Int)
  | 0, _ => some []
  | d + 1, last => findAt (mayB paper kept pieces ((pieces.length : Int) - ((d + 1 : Nat) : Int)) last) (findP paper kept pieces d) ((paper.length : Int) - (last + 1)).toNat (last + 1)
def lostOk (paper kept : List ByteArray) (pieces : List S157) (ks : List (Int × Int)) : Prop := ∀ q ∈ ks, findP paper kept pieces ((pieces.length : Int) - q.1).toNat q.2 = none
/-- What stands beside the places. -/
def QB (w1 : World) (B bp qb : Nat) (ks : List (Int × Int)) (W : World) : Prop :=
  Below B w1 W ∧ W.heap[B]? = some (.cells #[.pointer (some ⟨qb, 0, none⟩)] 127 (0, 0)) ∧ W.heap[B + 2]? = some (.cells #[.map (some (B + 1))] 130 (0, 0)) ∧
  W.heap[B + 4]? = some (.cells #[.func (.func 65) #[] #[.pointer (some ⟨B, 0, none⟩), .pointer (some ⟨B + 2, 0, none⟩), .pointer (some ⟨bp, 0, none⟩), .pointer (some ⟨B + 3, 0, none⟩), .pointer (some ⟨B + 4, 0, none⟩)]] 131 (0, 0)) ∧
  MapIs W (B + 1) of2 (ks.map fun q => (q, Value.bool true))
/-- The places, too. -/
def QI (w1 : World) (B bp qb : Nat) (P : List Int) (ks : List (Int × Int)) (W : World) : Prop :=
  QB w1 B bp qb ks W ∧ ∃ v, W.heap[B + 3]? = some (.cells #[v] 28 (0, 0)) ∧ Kd.R (Kd.int .i64) 3 W B (fun _ => True) v P
section
variable {w1 W W' : World} {B bp qb : Nat} {ks : List (Int × Int)} {P : List Int}
theorem QB.size (h : QB w1 B bp qb ks W) : B + 4 < W.heap.size := blk_lt h.2.2.2.1
theorem QB.below (h : QB w1 B bp qb ks W) (hb : Below W.heap.size W W') : QB w1 B bp qb ks W' := by
  have hs := h.size
  obtain ⟨h0, h1, h2, h3, h4⟩ := h
  exact ⟨below_then h0 (by omega) hb, (hb.block _ (blk_lt h1)).trans h1, (hb.block _ (blk_lt h2)).trans h2, (hb.block _ (blk_lt h3)).trans h3, h4.below hb⟩
theorem QB.grown (h : QB w1 B bp qb ks W) (hb : Below B w1 W') {row : Option Nat} (hg : W.grownBy W' row) (hr : ∀ k, row = some k → ∃ cs, W.heap[k]? = some (.cells cs 3 (0, 0))) : QB w1 B bp qb ks W' := by
  obtain ⟨h0, h1, h2, h3, h4⟩ := h
  have hne : ∀ {g : Nat} {o : Obj}, W.heap[g]? = some o → (∀ cs, o ≠ .cells cs 3 (0, 0)) → some g ≠ row := by
    intro g o hg hc e
    obtain ⟨cs, hcs⟩ := hr g e.symm
    rw [hg] at hcs
    cases hcs
    exact hc cs rfl
  refine ⟨hb, blk_grown h1 hg (hne h1 (by simp)), blk_grown h2 hg (hne h2 (by simp)), blk_grown h3 hg (hne h3 (by simp)), h4.of_block ?_⟩
  obtain ⟨es, c, hm, _⟩ := h4
  exact hg.block _ (blk_lt hm) (hne hm (by simp))
theorem QB.far (h : QB w1 B bp qb ks W) (u : Value) : QB w1 B bp qb ks (W.setCell ⟨B + 3, 0, none⟩ u) := by
  obtain ⟨h0, h1, h2, h3, h4⟩ := h
  refine ⟨h0.setCell (p := ⟨B + 3, 0, none⟩) (by simp) u, blk_far h1 (by simp) u, blk_far h2 (by simp) u, blk_far h3 (by simp) u, h4.of_block (Below.heap_setCell W _ u _ (by simp))⟩
theorem QB.mark (h : QB w1 B bp qb ks W) {ks' : List (Int × Int)} (hm : MapIs W' (B + 1) of2 (ks'.map fun q => (q, Value.bool true))) (hg : W.grownBy W' (some (B + 1))) : QB w1 B bp qb ks' W' := by
  have hs := h.size
  obtain ⟨h0, h1, h2, h3, h4⟩ := h
  exact ⟨pw_below_grown h0 _ (by omega) hg (by rintro k e; cases e; omega), blk_grown h1 hg (by simp), blk_grown h2 hg (by simp), blk_grown h3 hg (by simp), hm⟩
theorem QI.below (h : QI w1 B bp qb P ks W) (hb : Below W.heap.size W W') : QI w1 B bp qb P ks W' := by
  obtain ⟨h0, v, h1, h2⟩ := h
  exact ⟨h0.below hb, v, (hb.block _ (blk_lt h1)).trans h1, Kd.R_below h2 hb⟩
theorem QI.mark (h : QI w1 B bp qb P ks W) {ks' : List (Int × Int)} (hm : MapIs W' (B + 1) of2 (ks'.map fun q => (q, Value.bool true))) (hg : W.grownBy W' (some (B + 1))) : QI w1 B bp qb P ks' W' := by
  obtain ⟨h0, v, h1, h2⟩ := h
  refine ⟨h0.mark hm hg, v, blk_grown h1 hg (by simp), ?_⟩
  obtain ⟨es, c, hmm, _⟩ := h0.2.2.2.2
  refine Kd.R_mono (Kd.R_grown (Kd.R_bound h2) hg (fun k hk e => ?_)) (fun _ _ => trivial)
  cases e
  obtain ⟨_, _, _, q, _, cells, hcs⟩ := hk
  rw [hmm] at hcs
  cases hcs
end
theorem kput_true {κ : Type} [DecidableEq κ] (x : κ) : ∀ ks : List κ, ∃ ks' : List κ, kput x (.bool true) (ks.map fun q => (q, Value.bool true)) = ks'.map (fun q => (q, Value.bool true)) ∧ ∀ q ∈ ks', q ∈ ks ∨ q = x
  | [] => ⟨[x], rfl, fun q h => .inr (by simpa using h)⟩
  | k :: ks => by
    obtain ⟨ks', h1, h2⟩ := kput_true x ks
    simp only [List.map_cons, kput]
    by_cases h : x = k
    · rw [if_pos h]
      exact ⟨k :: ks, rfl, fun q hq => .inl hq⟩
    · rw [if_neg h, h1]
      refine ⟨k :: ks', rfl, fun q hq => ?_⟩
      rcases List.mem_cons.1 hq with e | e
      · exact .inl (by simp [e])
      · rcases h2 q e with e2 | e2
        · exact .inl (by simp [e2])
        · exact .inr e2
/-- What the search answers. -/
def FR (w1 : World) (B bp qb : Nat) (paper kept : List ByteArray) (pieces : List S157) (P : List Int) (r : Option (List Int)) (e : Ending) (W' : World) : Prop :=
  ∃ ks', lostOk paper kept pieces ks' ∧ ((∃ l, r = some l ∧ e = .returned (.bool true) ∧ QI w1 B bp qb (P ++ l) ks' W') ∨ (r = none ∧ e = .returned (.bool false) ∧ QI w1 B bp qb P ks' W'))
/-- What stands behind an append, and behind its store. -/
theorem push_facts {w1 w2 w3 : World} {B bp qb : Nat} {ks : List (Int × Int)} {P : List Int} {i : Int} {v v3 : Value} (h : QI w1 B bp qb P ks w2) (hv : w2.heap[B + 3]? = some (.cells #[v] 28 (0, 0))) (hr : Kd.R (Kd.int .i64) 3 w2 B (fun _ => True) v P)
    (hb : Below B w1 w3) (hg : w2.grownBy w3 v.ownBlock) (ho : Kd.R (Kd.int .i64) 3 w3 B (fun _ => True) v3 (P ++ [i])) :
    Aside0 (QI w1 B bp qb (P ++ [i]) ks (w3.setCell ⟨B + 3, 0, none⟩ v3)) ∧ w3.cell? ⟨B + 3, 0, none⟩ = some v ∧ w3.frozen? ⟨B + 3, 0, none⟩ = false ∧
    w3.cell? ⟨B + 4, 0, none⟩ = some (.func (.func 65) #[] #[.pointer (some ⟨B, 0, none⟩), .pointer (some ⟨B + 2, 0, none⟩), .pointer (some ⟨bp, 0, none⟩), .pointer (some ⟨B + 3, 0, none⟩), .pointer (some ⟨B + 4, 0, none⟩)]) := by
  have hbox : w3.heap[B + 3]? = some (.cells #[v] 28 (0, 0)) := blk_grown hv hg (Kd.R_ne hr hv (by decide))
  have hQ : QB w1 B bp qb ks w3 := h.1.grown hb hg (fun k hk => Kd.R_typed hr k hk)
  have hQ2 := hQ.far v3
  exact ⟨⟨hQ2, v3, blk_set hbox 0 v3, Kd.R_set ho hbox (by simp [Kd.int, Kd.scalar]) 0 v3⟩, blk_cell hbox 0, blk_frozen hbox 0, blk_cell hQ.2.2.2.1 0⟩
theorem pop_facts {w1 w5 : World} {B bp qb : Nat} {ks : List (Int × Int)} {P : List Int} {i : Int} {A : Option Addr} {c : Nat} (h : QB w1 B bp qb ks w5) (hv : w5.heap[B + 3]? = some (.cells #[.slice A (P.length + 1) c] 28 (0, 0)))
    (hr : Kd.R (Kd.int .i64) 3 w5 B (fun _ => True) (.slice A (P.length + 1) c) (P ++ [i])) : QI w1 B bp qb P ks (w5.setCell ⟨B + 3, 0, none⟩ (.slice A P.length c)) := by
  refine ⟨h.far _, _, blk_set hv 0 _, ?_⟩
  have ht := Kd.R_take (m := P.length) hr (by simp)
  rw [List.take_left'] at ht
  · exact Kd.R_set ht hv (by simp [Kd.int, Kd.scalar]) 0 _
  · rfl
set_option maxHeartbeats 4000000 in
set_option maxRecDepth 100000 in
theorem find_calls (w1 : World) (B bp qb : Nat) (Ap : Option Addr) (cp : Nat) (paper : List ByteArray) (Ak : Option Addr) (ck : Nat) (kept : List ByteArray) (Aq : Option Addr) (cq : Nat) (pieces : List S157)
    (hB : w1.heap.size = B) (hbp : w1.heap[bp]? = some (.cells #[.slice Ap paper.length cp] 73 (0, 0)))
    (hq : w1.heap[qb]? = some (.cells #[.slice Ap paper.length cp, .slice Ak kept.length ck, .slice Aq pieces.length cq] 134 (0, 0)))
    (hp : Kd.C Kd.string w1 Ap paper.length paper) (hcp : paper.length ≤ cp) (hk : Kd.C Kd.string w1 Ak kept.length kept) (hpp : Kd.C k157 w1 Aq pieces.length pieces)
    (hs : ∀ n, (rd_T157 pieces n).f0.size ≤ 9223372036854775807) (hlp : paper.length ≤ 80) (hlk : kept.length ≤ 80) (hlq : pieces.length ≤ 80) :
    ∀ (d : Nat) (n last : Int) (P : List Int) (ks : List (Int × Int)) (W : World), n = (pieces.length : Int) - d → 0 ≤ n → -1 ≤ last → last < (paper.length : Int) → (P.length : Int) = n → lostOk paper kept pieces ks → QI w1 B bp qb P ks W →
      Calls Try.prog 65 #[.int .i64 n, .int .i64 last, .pointer (some ⟨B, 0, none⟩), .pointer (some ⟨B + 2, 0, none⟩), .pointer (some ⟨bp, 0, none⟩), .pointer (some ⟨B + 3, 0, none⟩), .pointer (some ⟨B + 4, 0, none⟩)] W
        (FR w1 B bp qb paper kept pieces P (findP paper kept pieces d last)) := by
  have HBB := Aside0.mk hB
  have HBP := Aside0.mk hbp
  have HQ := Aside0.mk hq
  have HP := Aside0.mk hp
  have HCP := Aside0.mk hcp
  have HK := Aside0.mk hk
  have HPP := Aside0.mk hpp
  have HS := Aside0.mk hs
  have HLP := Aside0.mk hlp
  have HLK := Aside0.mk hlk
  have HLQ := Aside0.mk hlq
  have hbel : ∀ {W : World}, Below B w1 W → Below w1.heap.size w1 W := fun h => by rw [HBB.out]; exact h
  have HBEL := Aside0.mk @hbel
  clear hB hbp hq hp hcp hk hpp hs hlp hlk hlq hbel
  intro d
  induction d with
  | zero =>
    intro n last P ks W hn hn0 hl0 hl1 hPn hlost hI
    obtain rfl : n = (pieces.length : Int) := by omega
    have HI := Aside0.mk hI
    have HLO := Aside0.mk hlost
    have hw := HBEL.out hI.1.1
    have c0 := (blk_cell hI.1.2.1 0).trans (show _ = some (Value.pointer (some ⟨qb, 0, none⟩)) from rfl)
    have c1 := pw_cell_below hw ((blk_cell HQ.out 2).trans (show _ = some (Value.slice Aq pieces.length cq) from rfl))
    have hu134 := Try.underlying134
    clear hI hlost hw hn hn0 hl0 hl1 hPn
    go_enter Try.func65, Try.ntmps65
    go_wp2
    go_ret
    exact ⟨ks, HLO.out, .inl ⟨[], rfl, rfl, by rw [List.append_nil]; exact HI.out⟩⟩
  | succ d ih =>
    intro n last P ks W hn hn0 hl0 hl1 hPn hlost hI
    have IH := Aside0.mk ih
    have HN := Aside0.mk hn
    have HI := Aside0.mk hI
    have HLO := Aside0.mk hlost
    have HPN := Aside0.mk hPn
    have HL := Aside0.mk (show -1 ≤ last ∧ last < (paper.length : Int) from ⟨hl0, hl1⟩)
    have HN0 := Aside0.mk (show 0 ≤ n ∧ n < (pieces.length : Int) from ⟨hn0, by omega⟩)
    have hw := HBEL.out hI.1.1
    have c0 := (blk_cell hI.1.2.1 0).trans (show _ = some (Value.pointer (some ⟨qb, 0, none⟩)) from rfl)
    have c1 := pw_cell_below hw ((blk_cell HQ.out 2).trans (show _ = some (Value.slice Aq pieces.length cq) from rfl))
    have c2 := (blk_cell hI.1.2.2.1 0).trans (show _ = some (Value.map (some (B + 1))) from rfl)
    have HM := Aside0.mk hI.1.2.2.2.2
    have hne : (n == (pieces.length : Int)) = false := beq_eq_false_iff_ne.mpr (by have := HN0.out; omega)
    have hu134 := Try.underlying134
    have hu136 := Try.underlying136
    have hl2 : last ≤ 80 := by have := HLP.out; omega
    have hn2 : n ≤ 80 := by have := HLQ.out; have := HN0.out; omega
    clear ih hn hI hlost hPn hw hl1
    by_cases hin : (n, last) ∈ ks
    · have HG := Aside0.mk (show kget (n, last) (.bool false) (ks.map fun q => (q, Value.bool true)) = .bool true by rw [kget_keys]; simp [hin])
      have HF := Aside0.mk (show findP paper kept pieces (d + 1) last = none by
        have h := HLO.out (n, last) hin
        have e : ((pieces.length : Int) - n).toNat = d + 1 := by have := HN.out; omega
        simp only [e] at h
        exact h)
      clear hin
      go_enter Try.func65, Try.ntmps65
      go_wp2_with (at_lookup; refine map_lookup _ rfl _ _ 130 136 4 rfl of2 (B + 1) _ (n, last) (.bool false) rfl rfl Try.underlying130 (Try.zeroValue4 _) fit136 HM.out ?_; rw [HG.out])
      go_ret
      exact ⟨ks, HLO.out, .inr ⟨HF.out, rfl, HI.out⟩⟩
    · have HG := Aside0.mk (show kget (n, last) (.bool false) (ks.map fun q => (q, Value.bool true)) = .bool false by rw [kget_keys]; simp [hin])
      clear hin
      obtain ⟨N, hN⟩ : ∃ N : Int → Option (List Int), N = findP paper kept pieces d := ⟨_, rfl⟩
      obtain ⟨O, hO⟩ : ∃ O : Int → Bool, O = mayB paper kept pieces n last := ⟨_, rfl⟩
      have HNN := Aside0.mk hN
      have HOO := Aside0.mk hO
      have HF := Aside0.mk (show findP paper kept pieces (d + 1) last = findAt O N ((paper.length : Int) - (last + 1)).toNat (last + 1) by
        rw [hN, hO, HN.out]; rfl)
      clear hN hO
      go_enter Try.func65, Try.ntmps65
      go_wp2_with (at_lookup; refine map_lookup _ rfl _ _ 130 136 4 rfl of2 (B + 1) _ (n, last) (.bool false) rfl rfl Try.underlying130 (Try.zeroValue4 _) fit136 HM.out ?_; rw [HG.out])
      go_loopg [10] paper.length (fun kq v10 w' => ∃ i : Int, v10 = .int .i64 i ∧ Aside0 (last + 1 ≤ i ∧ i ≤ (paper.length : Int) ∧ paper.length ≤ kq + i.toNat) ∧ Aside0 (∃ ks', lostOk paper kept pieces ks' ∧ QI w1 B bp qb P ks' w') ∧ Aside0 (findP paper kept pieces (d + 1) last = findAt O N ((paper.length : Int) - i).toNat i))
      case atStart => exact ⟨last + 1, by first | rfl | skip, ⟨by omega, by have := HL.out; omega, by have := HL.out; omega⟩, ⟨ks, HLO.out, HI.out⟩, HF⟩
      case round =>
        obtain ⟨i, rfl, HJ, HI2, HFF⟩ := hrel
        obtain ⟨ks', hlo', hi'⟩ := HI2.out
        have HLO' := Aside0.mk hlo'
        have HI' := Aside0.mk hi'
        have hw := HBEL.out hi'.1.1
        have HW := Aside0.mk hw
        have d0 := (blk_cell hi'.1.2.1 0).trans (show _ = some (Value.pointer (some ⟨qb, 0, none⟩)) from rfl)
        have d1 := pw_cell_below hw ((blk_cell HBP.out 0).trans (show _ = some (Value.slice Ap paper.length cp) from rfl))
        have d2 := (blk_cell hi'.1.2.2.1 0).trans (show _ = some (Value.map (some (B + 1))) from rfl)
        have HM' := Aside0.mk hi'.1.2.2.2.2
        clear hw hi' hlo' HI2 c0 c1 c2
        by_cases hlt : i < (paper.length : Int)
        case neg =>
          have e0 : decide (i < (paper.length : Int)) = false := decide_eq_false hlt
          have HFN := Aside0.mk (show findP paper kept pieces (d + 1) last = none by
            rw [HFF.out, show ((paper.length : Int) - i).toNat = 0 by omega]; rfl)
          obtain ⟨ks2, hk2, hk3⟩ := kput_true (n, last) ks'
          have HK2 := Aside0.mk hk2
          have HLO2 := Aside0.mk (show lostOk paper kept pieces ks2 by
            intro q hq
            rcases hk3 q hq with h | h
            · exact HLO'.out q h
            · subst h
              have e : ((pieces.length : Int) - n).toNat = d + 1 := by have := HN.out; omega
              simp only [e]
              exact HFN.out)
          clear hlt hk2 hk3
          go_wp2_with (at_mapUpdate; refine map_store _ rfl _ _ _ 130 136 4 rfl of2 (B + 1) _ (n, last) (.bool true) rfl rfl rfl Try.underlying130 fit136 HM'.out ?_; intro w3 hm hg; rw [HK2.out] at hm; have HI3 := Aside0.mk (HI'.out.mark hm hg); clear hm hg)
          go_ret
          exact ⟨ks2, HLO2.out, .inr ⟨HFN.out, rfl, HI3.out⟩⟩
        case pos =>
          have e0 : decide (i < (paper.length : Int)) = true := decide_eq_true hlt
          have HI0 := Aside0.mk (show -1 ≤ last ∧ last + 1 ≤ i ∧ i < (paper.length : Int) ∧ 0 ≤ i from ⟨HL.out.1, HJ.out.1, hlt, by have := HL.out; have := HJ.out; omega⟩)
          have hi0 : 0 ≤ i := HI0.out.2.2.2
          have hi1 : i ≤ 80 := by have := HLP.out; omega
          have hw1 : wrap64 (i + 1) = i + 1 := by unfold wrap64; omega
          have HC : ((paper.length : Int) - i).toNat = ((paper.length : Int) - (i + 1)).toNat + 1 := by omega
          have HMAY := Aside0.mk (may_calls qb Ap cp paper Ak ck kept Aq cq pieces n last i wr ((HW.out.block _ (blk_lt HQ.out)).trans HQ.out) (Kd.C_below HP.out HW.out) HCP.out (Kd.C_below HK.out HW.out) (Kd.C_below HPP.out HW.out) HN0.out.1 HN0.out.2 HL.out.1 (HS.out n) (by have := HLP.out; omega) (by have := HLK.out; omega))
          rw [HC] at HFF
          cases hm : mayB paper kept pieces n last i
          · have HFN := Aside0.mk (show findP paper kept pieces (d + 1) last = findAt O N ((paper.length : Int) - (i + 1)).toNat (i + 1) by
              rw [HFF.out, findAt, HOO.out, hm, if_neg (by simp)])
            rw [hm] at HMAY
            clear hlt hm HC
            go_wp2_with (go_at_call 66; (with_reducible refine (HMAY.out).mono ?_); rintro e w2 ⟨rfl, hb⟩; have HI3 := Aside0.mk (HI'.out.below hb); clear hb)
            go_roundg (gk - 1)
            case measure => have := HJ.out; have := HI0.out; omega
            case rel => exact ⟨i + 1, by first | rfl | rw [hw1], ⟨by have := HI0.out; omega, by have := HI0.out; omega, by have := HJ.out; have := HI0.out; omega⟩, ⟨ks', HLO'.out, HI3.out⟩, HFN⟩
          · rw [hm] at HMAY
            have HOI := Aside0.mk (show O i = true by rw [HOO.out]; exact hm)
            clear hlt hm HC
            have HLL := Aside0.mk (show P.length ≤ 80 by have := HPN.out; omega)
            have hnw : 0 ≤ n := hn0
            go_wp2_with (first | (go_at_call 66; (with_reducible refine (HMAY.out).mono ?_); rintro e w2 ⟨rfl, hb⟩; have HI3 := Aside0.mk (HI'.out.below hb); clear hb; obtain ⟨v, hv1, hv2⟩ := HI3.out.2; obtain ⟨Ao, co, eo⟩ := Kd.R_slice hv2; subst eo; have HV1 := Aside0.mk hv1; have HV2 := Aside0.mk hv2; have s0 := (blk_cell hv1 0).trans (show _ = some (Value.slice Ao P.length co) from rfl); clear hv1 hv2) | ((with_reducible refine gate_builtin (b := .append) (xs := #[.tmp 37, .tmp 39]) rfl ?_); at_builtin; refine Kd.R_append (Kd.int .i64) (w0 := w1) B rfl (.tmp 37) (.tmp 39) 28 3 (.int .i64 0) 8 rfl Try.underlying28 info3 rfl (by decide) (by omega) (.slice Ao P.length co) P i [.int .i64 i] (fun _ => True) (fun _ => False) rfl rfl ?aP (fun _ hk => hk.elim) ?aF ?aO ?aB ?aS ?aL ?_; (case aP => exact rfl); (case aB => exact HI3.out.1.1); (case aF => exact (fun _ _ => trivial)); (case aO => exact HV2.out); (case aS => exact (by have := HI3.out.1.size; omega)); (case aL => have := HLL.out; omega); intro v3 w3 ho hb hg hat; obtain ⟨A3, c3, eo3⟩ := Kd.R_slice ho; rw [List.length_append, List.length_singleton] at eo3; subst eo3; obtain ⟨HI4, t0, t1, t2⟩ := push_facts HI3.out HV1.out HV2.out hb hg ho; clear ho hb hg hat))
            refine (IH.out (n + 1) i (P ++ [i]) ks' _ (by have := HN.out; omega) (by omega) (by have := HI0.out; omega) HI0.out.2.2.1 (by rw [List.length_append]; have := HPN.out; simp; omega) HLO'.out HI4.out).mono ?_
            rintro e w5 ⟨ks5, hlo5, h5⟩
            rcases h5 with ⟨l, hl, rfl, hq5⟩ | ⟨hl, rfl, hq5⟩
            · have HFN := Aside0.mk (show findP paper kept pieces (d + 1) last = some (i :: l) by
                rw [HFF.out, findAt, if_pos HOI.out, HNN.out, hl])
              have HQ5 := Aside0.mk (show QI w1 B bp qb (P ++ (i :: l)) ks5 w5 by rw [List.append_cons]; exact hq5)
              have HLO5 := Aside0.mk hlo5
              clear hl hq5 hlo5
              go_wp2
              go_ret
              exact ⟨ks5, HLO5.out, .inl ⟨_, HFN.out, rfl, HQ5.out⟩⟩
            · have HFN := Aside0.mk (show findP paper kept pieces (d + 1) last = findAt O N ((paper.length : Int) - (i + 1)).toNat (i + 1) by
                rw [HFF.out, findAt, if_pos HOI.out, HNN.out, hl])
              obtain ⟨v5, hv5, hr5⟩ := hq5.2
              obtain ⟨A5, c5, eo5⟩ := Kd.R_slice hr5
              subst eo5
              obtain ⟨hlc, hcc⟩ : (P ++ [i]).length = P.length + 1 ∧ P.length + 1 ≤ c5 := ⟨by simp, by have := (Kd.R_reads' hr5).2.1; simp at this; exact this⟩
              rw [hlc] at hv5 hr5
              have HP5 := Aside0.mk (pop_facts hq5.1 hv5 hr5)
              have x0 := (blk_cell hv5 0).trans (show _ = some (Value.slice A5 (P.length + 1) c5) from rfl)
              have x1 := blk_frozen hv5 0
              have HLO5 := Aside0.mk hlo5
              have hwp : wrap64 (P.length : Int) = (P.length : Int) := by unfold wrap64; have := HLL.out; omega
              obtain ⟨i3, hi3, _, _, _⟩ := info_parts info3
              have hsl := cut_to (P := Try.prog) 28 3 .i64 Try.underlying28 hi3 A5 (P.length + 1) c5 (P.length : Int) (by omega) (by omega) hcc
              rw [Int.toNat_natCast] at hsl
              clear hl hq5 hlo5 hlc hv5 hr5 hi3
              go_wp2
              go_roundg (gk - 1)
              case measure => have := HJ.out; have := HI0.out; omega
              case rel => exact ⟨i + 1, by first | rfl | rw [hw1], ⟨by have := HI0.out; omega, by have := HI0.out; omega, by have := HJ.out; have := HI0.out; omega⟩, ⟨ks5, HLO5.out, HP5.out⟩, HFN⟩
end Go.Proofs.Ythpheknchikodaa.P

/- The walk of Quote: the first places of a quotation, or the error. Conditions: none beyond the lists' being readable. -/
namespace Go.Proofs.Ythpheknchikodaa.P
open Go.RowKit Go.Proofs.YthpheknchikodaaW.PrintWords Go.Proofs.YthpheknchikodaaW.PrintLast
set_option linter.unusedVariables false
set_option linter.unusedSimpArgs false

def office_Quote.f (paper quotation kept : List ByteArray) : Option (List Int × Int) :=
  if quoteOk paper quotation kept = true then
    if 0 < (piecesOf quotation).length then (match findP paper kept (piecesOf quotation) (piecesOf quotation).length (-1) with | some l => some (l, 0) | none => some ([], 7))
    else some ([], 1)
  else some ([], 1)
theorem piecesFrom_len (l : List ByteArray) : ∀ (b : Bool) (L : List S157), (piecesFrom b L l).length ≤ L.length + l.length := by
  induction l with
  | nil => intro b L; simp [piecesFrom]
  | cons s l ih =>
    intro b L
    unfold piecesFrom
    split
    · have := ih true L; simp; omega
    · have := ih false (L ++ [⟨s, b || decide (L.length = 0)⟩]); simp at this ⊢; omega
theorem piecesFrom_mem (l : List ByteArray) : ∀ (b : Bool) (L : List S157) (x : S157), x ∈ piecesFrom b L l → x ∈ L ∨ x.f0 ∈ l := by
  induction l with
  | nil => intro b L x h; exact .inl h
  | cons s l ih =>
    intro b L x h
    unfold piecesFrom at h
    split at h
    · rcases ih _ _ _ h with h | h
      · exact .inl h
      · exact .inr (List.mem_cons_of_mem _ h)
    · rcases ih _ _ _ h with h | h
      · rcases List.mem_append.1 h with h | h
        · exact .inl h
        · simp at h
          exact .inr (by rw [h]; simp)
      · exact .inr (List.mem_cons_of_mem _ h)
theorem quoteOk_facts {paper quotation kept : List ByteArray} (h : quoteOk paper quotation kept = true) : paper.length ≤ 80 ∧ 1 ≤ paper.length ∧ quotation.length ≤ 80 ∧ kept.length ≤ 20 ∧ (∀ n, (rd_T157 (piecesOf quotation) n).f0.size ≤ 32) ∧ (piecesOf quotation).length ≤ 80 := by
  unfold quoteOk at h
  simp only [Bool.and_eq_true] at h
  obtain ⟨⟨⟨⟨⟨b1, b2⟩, b3⟩, b4⟩, b5⟩, b6⟩ := h
  unfold withinB at b1 b2
  simp at b1 b2 b3
  have hl := piecesFrom_len quotation false []
  refine ⟨by omega, by omega, by omega, by omega, fun n => ?_, by unfold piecesOf; simp at hl; omega⟩
  unfold rd_T157
  by_cases hn : n.toNat < (piecesOf quotation).length
  · rw [List.getD_eq_getElem?_getD, List.getElem?_eq_getElem hn, Option.getD_some]
    rcases piecesFrom_mem quotation false [] _ (List.getElem_mem hn) with h | h
    · cases h
    · have hw := List.all_eq_true.1 b5 _ h
      unfold wordOk textOk withinB at hw
      simp at hw
      omega
  · rw [List.getD_eq_getElem?_getD, List.getElem?_eq_none (by omega)]
    decide
theorem qi_start (w2 : World) (bp qb : Nat) : QI w2 w2.heap.size bp qb [] [] (((((w2.alloc (.cells #[.pointer (some ⟨qb, 0, none⟩)] 127)).alloc (.map #[] 0)).alloc (.cells #[.map (some (w2.heap.size + 1))] 130)).alloc (.cells #[.slice none 0 0] 28)).alloc
    (.cells #[.func (.func 65) #[] #[.pointer (some ⟨w2.heap.size, 0, none⟩), .pointer (some ⟨w2.heap.size + 2, 0, none⟩), .pointer (some ⟨bp, 0, none⟩), .pointer (some ⟨w2.heap.size + 3, 0, none⟩), .pointer (some ⟨w2.heap.size + 4, 0, none⟩)]] 131)) := by
  have al : ∀ {w : World} {g : Nat} {o : Obj} (h : w.heap[g]? = some o) (O : Obj), (w.alloc O).heap[g]? = some o := fun h O => (((Below.refl _ _).alloc (Nat.le_refl _) O).block _ (blk_lt h)).trans h
  have nw : ∀ (w : World) (o : Obj) (k : Nat), w.heap.size = k → (w.alloc o).heap[k]? = some o := fun w o k h => by rw [← h]; exact blk_new w o
  refine ⟨⟨below_alloc (below_alloc (below_alloc (below_alloc (below_alloc (Below.refl _ _) _) _) _) _) _, ?_, ?_, ?_, ?_⟩, _, ?_, Kd.R_nil _ _ _ _ _⟩
  · exact al (al (al (al (nw _ _ _ rfl) _) _) _) _
  · exact al (al (nw _ _ _ (by simp)) _) _
  · exact nw _ _ _ (by simp)
  · exact ⟨#[], 0, al (al (al (nw _ _ _ (by simp)) _) _) _, rfl⟩
  · exact al (nw _ _ _ (by simp)) _
set_option maxHeartbeats 4000000 in
set_option maxRecDepth 100000 in
theorem office_Quote.calls (A0 : Option Addr) (c0 : Nat) (l0 : List ByteArray) (A1 : Option Addr) (c1 : Nat) (l1 : List ByteArray) (A2 : Option Addr) (c2 : Nat) (l2 : List ByteArray) (r1 : List Int) (r2 : Int) (w : World)
    (hr0 : Kd.C Kd.string w A0 l0.length l0) (hc0 : l0.length ≤ c0) (hr1 : Kd.C Kd.string w A1 l1.length l1) (hc1 : l1.length ≤ c1) (hr2 : Kd.C Kd.string w A2 l2.length l2) (hc2 : l2.length ≤ c2) (h : office_Quote.f l0 l1 l2 = some (r1, r2)) :
    Calls Try.prog 35 #[.slice A0 l0.length c0, .slice A1 l1.length c1, .slice A2 l2.length c2] w fun e w' => ∃ v0_ : Value, e = .returned (.tuple #[v0_, .int .i64 r2]) ∧ Kd.R (Kd.int .i64) 3 w' w.heap.size (fun _ => True) v0_ r1 ∧ Below w.heap.size w w' := by
  have HB0 := fun O => Aside0.mk ((Below.refl w.heap.size w).alloc (Nat.le_refl _) O)
  have HR0 := Aside0.mk hr0
  have HR1 := Aside0.mk hr1
  have HR2 := Aside0.mk hr2
  have HC0 := Aside0.mk hc0
  have hmm := @run_makeMap Try.prog
  clear hr0 hr1 hr2 hc0 hc1 hc2
  unfold office_Quote.f at h
  by_cases hok : quoteOk l0 l1 l2 = true
  case neg =>
    rw [if_neg hok] at h
    have HOK := Aside0.mk (Bool.eq_false_iff.2 hok)
    clear hok
    cases h
    go_enter Try.func35, Try.ntmps35
    go_wp2_with (go_at_call 64; (refine (quote_bad l0 l1 l2 A0 c0 A1 c1 A2 c2 _ (Kd.C_below HR0.out (HB0 _).out) (Kd.C_below HR1.out (HB0 _).out) (Kd.C_below HR2.out (HB0 _).out) HOK.out).mono ?_); rintro e w2 ⟨rfl, hb⟩; have HB2 := Aside0.mk (below_then (HB0 _).out (HB0 _).out.size hb); clear hb)
    refine bodyPost_ret (results_tmp2 rfl _ _ _) rfl ?_
    exact ⟨_, rfl, Kd.R_nil _ _ _ _ _, below_alloc HB2.out _⟩
  case pos =>
    rw [if_pos hok] at h
    have HOK := Aside0.mk hok
    clear hok
    by_cases hl : 0 < (piecesOf l1).length
    case neg =>
      rw [if_neg hl] at h
      cases h
      have hl2 : decide (0 < (piecesOf l1).length) = false := decide_eq_false hl
      clear hl
      go_enter Try.func35, Try.ntmps35
      go_wp2_with (go_at_call 64; (refine (quote_good l0 l1 l2 A0 c0 A1 c1 A2 c2 _ (Kd.C_below HR0.out (HB0 _).out) (Kd.C_below HR1.out (HB0 _).out) (Kd.C_below HR2.out (HB0 _).out) HOK.out).mono ?_); rintro e w2 ⟨qb, Aq, cq, rfl, hx, ho, hb⟩; rw [hl2]; have HBX := Aside0.mk (below_then (HB0 _).out (HB0 _).out.size hb); clear hx ho hb)
      refine bodyPost_ret (results_tmp2 rfl _ _ _) rfl ?_
      exact ⟨_, rfl, Kd.R_nil _ _ _ _ _, below_alloc HBX.out _⟩
    case pos =>
      rw [if_pos hl] at h
      have HF := Aside0.mk h
      clear h
      have hl2 : decide (0 < (piecesOf l1).length) = true := decide_eq_true hl
      have HL := Aside0.mk hl
      clear hl
      go_enter Try.func35, Try.ntmps35
      go_wp2_with (go_at_call 64; (refine (quote_good l0 l1 l2 A0 c0 A1 c1 A2 c2 _ (Kd.C_below HR0.out (HB0 _).out) (Kd.C_below HR1.out (HB0 _).out) (Kd.C_below HR2.out (HB0 _).out) HOK.out).mono ?_); rintro e w2 ⟨qb, Aq, cq, rfl, hx, ho, hb⟩; rw [hl2]; have HX := Aside0.mk hx; have HO := Aside0.mk ho; have HBX := Aside0.mk hb; have HB2 := Aside0.mk (below_then (HB0 _).out (HB0 _).out.size hb); have HBP := Aside0.mk ((hb.block w.heap.size (by simp)).trans (blk_new w _)); clear hx ho hb)
      obtain ⟨q1, q2, q3, q4, q5, q6⟩ := quoteOk_facts HOK.out
      refine (find_calls w2 w2.heap.size w.heap.size qb A0 c0 l0 A2 c2 l2 Aq cq (piecesOf l1) rfl HBP.out HX.out (Kd.C_below HR0.out HB2.out) HC0.out (Kd.C_below HR2.out HB2.out) (Kd.R_reads' HO.out).2.2 (fun n => Nat.le_trans (q5 n) (by decide)) q1 (by omega) q6 (piecesOf l1).length 0 (-1) [] [] _ (by omega) (by omega) (by omega) (by omega) (by simp) (fun q hq => by cases hq) (qi_start w2 w.heap.size qb)).mono ?_
      rintro e w5 ⟨ks, hlo, h5⟩
      clear hlo q1 q2 q3 q4 q5 q6
      rcases h5 with ⟨l, hl, rfl, hq5⟩ | ⟨hl, rfl, hq5⟩
      · have hf := HF.out
        rw [hl] at hf
        cases hf
        obtain ⟨v5, hv5, hr5⟩ := hq5.2
        obtain ⟨A5, c5, eo5⟩ := Kd.R_slice hr5
        subst eo5
        have x0 := (blk_cell hv5 0).trans (show _ = some (Value.slice A5 (([] : List Int) ++ r1).length c5) from rfl)
        rw [List.nil_append] at x0 hr5
        have HR5 := Aside0.mk (Kd.R_lower hr5 HB2.out.size)
        have HB5 := Aside0.mk (below_then HB2.out HB2.out.size hq5.1.1)
        clear hl hq5 hr5 hv5
        go_wp2
        refine bodyPost_ret (results_tmp2 rfl _ _ _) rfl ?_
        exact ⟨_, rfl, HR5.out, HB5.out⟩
      · have hf := HF.out
        rw [hl] at hf
        cases hf
        have HB5 := Aside0.mk (below_then HB2.out HB2.out.size hq5.1.1)
        clear hl hq5
        go_wp2
        refine bodyPost_ret (results_tmp2 rfl _ _ _) rfl ?_
        exact ⟨_, rfl, Kd.R_nil _ _ _ _ _, HB5.out⟩
end Go.Proofs.Ythpheknchikodaa.P

/- slices.SortFunc at this program: its functions are the library's own (laid by the kit's plain writer). Conditions: none. -/
namespace Go.Proofs.Ythpheknchikodaa.P
open Go.Shelf
def sortRen : Go.Shelf.Ren := ⟨fun | 6 => 76 | 15 => 96 | 14 => 95 | 28 => 119 | 29 => 120 | 20 => 111 | 21 => 112 | 22 => 113 | 23 => 114 | 24 => 115 | 25 => 116 | 26 => 117 | 27 => 118 | 46 => 126 | 47 => 127 | 48 => 128 | 49 => 129 | 50 => 130 | 57 => 132 | n => n, fun | 22 => 145 | 24 => 122 | 25 => 148 | 3 => 3 | 39 => 160 | 0 => 0 | 53 => 61 | 55 => 176 | 4 => 4 | 46 => 168 | 45 => 167 | 50 => 172 | 5 => 5 | 9 => 9 | 66 => 180 | 70 => 184 | 76 => 187 | 77 => 71 | n => n, fun | n => n⟩
theorem sortLaid : Go.Proofs.SlLaysF0.n6 Try.prog sortRen := {
  mixed := by kernel_rfl
  f6 := ⟨Try.f76.name, by decide, Try.func76.trans (congrArg some (by kernel_rfl))⟩
  f14 := ⟨Try.f95.name, by decide, Try.func95.trans (congrArg some (by kernel_rfl))⟩
  f15 := Try.func96.trans (congrArg some (by kernel_rfl))
  f20 := ⟨Try.f111.name, by decide, Try.func111.trans (congrArg some (by kernel_rfl))⟩
  f21 := ⟨Try.f112.name, by decide, Try.func112.trans (congrArg some (by kernel_rfl))⟩
  f22 := ⟨Try.f113.name, by decide, Try.func113.trans (congrArg some (by kernel_rfl))⟩
  f23 := ⟨Try.f114.name, by decide, Try.func114.trans (congrArg some (by kernel_rfl))⟩
  f24 := ⟨Try.f115.name, by decide, Try.func115.trans (congrArg some (by kernel_rfl))⟩
  f25 := ⟨Try.f116.name, by decide, Try.func116.trans (congrArg some (by kernel_rfl))⟩
  f26 := ⟨Try.f117.name, by decide, Try.func117.trans (congrArg some (by kernel_rfl))⟩
  f27 := ⟨Try.f118.name, by decide, Try.func118.trans (congrArg some (by kernel_rfl))⟩
  f28 := Try.func119.trans (congrArg some (by kernel_rfl))
  f29 := Try.func120.trans (congrArg some (by kernel_rfl))
  f46 := ⟨Try.f126.name, by decide, Try.func126.trans (congrArg some (by kernel_rfl))⟩
  f47 := Try.func127.trans (congrArg some (by kernel_rfl))
  f48 := Try.func128.trans (congrArg some (by kernel_rfl))
  f49 := ⟨Try.f129.name, by decide, Try.func129.trans (congrArg some (by kernel_rfl))⟩
  f50 := ⟨Try.f130.name, by decide, Try.func130.trans (congrArg some (by kernel_rfl))⟩
  f57 := ⟨Try.f132.name, by decide, Try.func132.trans (congrArg some (by kernel_rfl))⟩
  t0 := Try.underlying0
  a0 := Try.isAgg0
  z0 := Try.sizeOf0
  v0 := Try.zeroValue0
  t3 := Try.underlying3
  a3 := Try.isAgg3
  z3 := Try.sizeOf3
  v3 := Try.zeroValue3
  t4 := Try.underlying4
  a4 := Try.isAgg4
  z4 := Try.sizeOf4
  v4 := Try.zeroValue4
  t5 := Try.underlying5
  a5 := Try.isAgg5
  z5 := Try.sizeOf5
  v5 := Try.zeroValue5
  t9 := Try.underlying9
  a9 := Try.isAgg9
  z9 := Try.sizeOf9
  v9 := Try.zeroValue9
  t22 := Try.underlying145
  a22 := Try.isAgg145
  z22 := Try.sizeOf145
  v22 := Try.zeroValue145
  t25 := Try.underlying148
  a25 := Try.isAgg148
  z25 := Try.sizeOf148
  v25 := Try.zeroValue148
  t39 := Try.underlying160
  a39 := Try.isAgg160
  z39 := Try.sizeOf160
  v39 := Try.zeroValue160
  t45 := Try.underlying167
  a45 := Try.isAgg167
  z45 := Try.sizeOf167
  v45 := Try.zeroValue167
  t46 := Try.underlying168
  a46 := Try.isAgg168
  z46 := Try.sizeOf168
  v46 := Try.zeroValue168
  t50 := Try.underlying172
  a50 := Try.isAgg172
  z50 := Try.sizeOf172
  v50 := Try.zeroValue172
  t53 := Try.underlying61
  a53 := Try.isAgg61
  z53 := Try.sizeOf61
  v53 := Try.zeroValue61
  t55 := Try.underlying176
  a55 := Try.isAgg176
  z55 := Try.sizeOf176
  v55 := Try.zeroValue176
  t66 := Try.underlying180
  a66 := Try.isAgg180
  z66 := Try.sizeOf180
  v66 := Try.zeroValue180
  t70 := Try.underlying184
  a70 := Try.isAgg184
  z70 := Try.sizeOf184
  v70 := Try.zeroValue184
  t76 := Try.underlying187
  a76 := Try.isAgg187
  z76 := Try.sizeOf187
  v76 := Try.zeroValue187
  t77 := Try.underlying71
  a77 := Try.isAgg71
  z77 := Try.sizeOf71
  v77 := Try.zeroValue71 }
end Go.Proofs.Ythpheknchikodaa.P

/- slices.SortFunc over a row of the call's own, of elements of several cells: the same row, sorted as the library's text sorts. Conditions: the comparison is a strict weak order told by a plain function. -/
namespace Go.Proofs.Ythpheknchikodaa.P
open Go.RowKit Go.Shelf Go.Sort Go.Proofs.YthpheknchikodaaW.PrintWords Go.Proofs.YthpheknchikodaaW.PrintLast
set_option linter.unusedVariables false
set_option linter.unusedSimpArgs false

/-- A list as the library sorts it. -/
def sortL {α : Type} [Inhabited α] (cf : α → α → Int) (l : List α) : List α := (pdq (ltOf cf) l.toArray 0 l.length (Lib.bitLen l.length) true true).toList
theorem sortL_spec {α : Type} [Inhabited α] (cf : α → α → Int) (hO : SWO (ltOf cf)) (l : List α) : (sortL cf l).Perm l ∧ (sortL cf l).Pairwise fun x y => ltOf cf y x = false := by
  have key : ∀ d : Array α, PermIn 0 l.length l.toArray d ∧ SortedIn (ltOf cf) 0 l.length d → d.toList.Perm l ∧ d.toList.Pairwise fun x y => ltOf cf y x = false := by
    rintro d ⟨⟨h1, _, h2⟩, h3⟩
    have hs : d.size = l.length := by simpa using h1
    constructor
    · have e1 : d.extract 0 l.length = d := by rw [← hs]; simp
      have e2 : l.toArray.extract 0 l.length = l.toArray := by simp
      rw [e1, e2] at h2
      simpa using h2
    · rw [List.pairwise_iff_getElem]
      intro i j hi hj hij
      have hj' : j < d.size := by simpa using hj
      have h4 := h3 i j (Nat.zero_le _) hij (by omega)
      rw [getElem!_pos d j hj', getElem!_pos d i (by omega)] at h4
      simpa using h4
  exact key _ (pdq_sorts (ltOf cf) hO l.toArray 0 l.length (Lib.bitLen l.length) true true (Nat.zero_le _) (by simp) (Or.inl rfl))
theorem sortL_length {α : Type} [Inhabited α] (cf : α → α → Int) (hO : SWO (ltOf cf)) (l : List α) : (sortL cf l).length = l.length := (sortL_spec cf hO l).1.length_eq

theorem flat_toList {α : Type} [Inhabited α] (enc : α → List Value) (k : Nat) (hk : ∀ x, (enc x).length = k) (l : List α) (j : Nat) (x : α) (hx : l[j]? = some x) : (((flatK enc k l.toArray).toList.drop (j * k)).take k) = enc x := by
  have hj : j < l.length := (List.getElem?_eq_some_iff.1 hx).1
  have hle : j * k + k ≤ l.length * k := by rw [← Nat.succ_mul]; exact Nat.mul_le_mul_right _ hj
  apply List.ext_getElem?
  intro t
  rw [List.getElem?_take]
  by_cases ht : t < k
  · rw [if_pos ht, List.getElem?_drop, Array.getElem?_toList]
    have hlt : j * k + t < l.toArray.size * k := by simp; omega
    have hk0 : 0 < k := by omega
    have e1 : (j * k + t) / k = j := by rw [Nat.mul_comm, Nat.mul_add_div hk0, Nat.div_eq_of_lt ht, Nat.add_zero]
    have e2 : (j * k + t) % k = t := by rw [Nat.mul_comm, Nat.mul_add_mod, Nat.mod_eq_of_lt ht]
    have hg := get_flatK enc k l.toArray (j * k + t) hlt
    rw [e1, e2] at hg
    have hxx : l.toArray[j]! = x := by
      rw [getElem!_pos l.toArray j (by simpa using hj)]
      simpa [List.getElem?_eq_getElem hj] using hx
    rw [hxx] at hg
    rw [Array.getElem?_eq_getElem (by simpa using hlt)]
    rw [getElem!_pos (flatK enc k l.toArray) (j * k + t) (by simpa using hlt)] at hg
    rw [hg, List.getElem?_eq_getElem (by rw [hk]; exact ht), getElem!_pos (enc x) t (by rw [hk]; exact ht)]
  · rw [if_neg ht, List.getElem?_eq_none (by rw [hk]; omega)]
/-- A row's cells, element by element, are the flat ones. -/
theorem reps_flat {α : Type} [Inhabited α] (enc : α → List Value) (k : Nat) (hk : ∀ x, (enc x).length = k) (l : List α) (cs : List Value) (h : Reps (fun x c => c = enc x) k l cs) : cs = (flatK enc k l.toArray).toList := by
  obtain ⟨h1, h2⟩ := h
  apply List.ext_getElem?
  intro t
  by_cases ht : t < l.length * k
  · have hk0 : 0 < k := by rcases Nat.eq_zero_or_pos k with h | h; · subst h; simp at ht
                           · exact h
    have hj : t / k < l.length := (Nat.div_lt_iff_lt_mul hk0).2 ht
    have e := h2 (t / k) l[t / k] (List.getElem?_eq_getElem hj)
    have e' := flat_toList enc k hk l (t / k) l[t / k] (List.getElem?_eq_getElem hj)
    have hm : t / k * k + t % k = t := Nat.div_add_mod' t k
    have g1 := congrArg (fun z => z[t % k]?) e
    have g2 := congrArg (fun z => z[t % k]?) e'
    simp only [List.getElem?_take, if_pos (Nat.mod_lt t hk0), List.getElem?_drop, hm] at g1 g2
    rw [g1, g2]
  · rw [List.getElem?_eq_none (by rw [h1]; omega), List.getElem?_eq_none (by simp; omega)]
section
variable {α : Type} [Inhabited α] {P : Program} {ρ : Ren}
theorem sort_Kd (L : SlLaysF0.n6 P ρ) (k : Nat) (aE : ∀ w, (isAgg (ρ.t 24)).run P w = .ok true w) (zE : ∀ w, (Go.sizeOf (ρ.t 24)).run P w = .ok k w) (d : Kd α) (hsz : d.sz = k) (enc : α → List Value) (hk : ∀ x, (enc x).length = k) (h1 : ∀ x, ∀ v ∈ enc x, v.oneCell' = true)
    (hM1 : ∀ {w base ok x cs}, d.M w base ok x cs → cs = enc x) (hM2 : ∀ (w : World) (base : Nat) (ok : Nat → Prop) (x : α), d.M w base ok x (enc x))
    (cf : α → α → Int) (hO : SWO (ltOf cf)) (g : Nat) (cb : Array Value) (eg : ∀ args w, (callFunc g args).run P w = .ok (.enter g args) w)
    (hcmp : ∀ x y W, Calls P g (#[.agg (enc x).toArray, .agg (enc y).toArray] ++ cb) W fun e w' => e = .returned (.int .i64 (cf x y)) ∧ ∃ q os', w' = grow (W.drewN q) os')
    {e base : Nat} {ok : Nat → Prop} {v : Value} (l : List α) (w : World) (h : d.R e w base ok v l) (hlen : l.length < 4611686018427387904) :
    Calls P (ρ.f 6) #[v, .func (.func g) #[] cb] w fun e' w' => e' = .returned (.tuple #[]) ∧ d.R e w' base ok v (sortL cf l) ∧ w.grownBy w' v.ownBlock := by
  rcases Nat.eq_zero_or_pos l.length with h0 | h0
  · obtain rfl := List.eq_nil_of_length_eq_zero h0
    have hs : sortL cf ([] : List α) = [] := List.eq_nil_of_length_eq_zero (sortL_length cf hO [])
    obtain ⟨A, c, rfl⟩ := Kd.R_slice h
    refine (AnyF.slices_SortFunc_none L A c _ w).mono ?_
    rintro e' w' ⟨rfl, rfl⟩
    exact ⟨rfl, by rw [hs]; exact h, grown_of_below (Below.refl _ _) _⟩
  · obtain ⟨hok, inner, ho, hr⟩ := h
    have hr' : Reps (fun x c => c = enc x) k l inner := by
      rw [hsz] at hr
      exact hr.imp_ fun _ _ hp => hM1 hp
    have hin := reps_flat enc k hk l inner hr'
    obtain ⟨hl, hcase⟩ := ho
    rcases hcase with ⟨_, hz⟩ | ⟨b, cap, cur, rfl, hb, hh, hnc, hcm, hcs, htk⟩
    · omega
    have hblk : b < w.heap.size := (Array.getElem?_eq_some_iff.1 hh).1
    have hsize : l.length * k ≤ cur.size := by rw [hcs, hsz]; exact Nat.mul_le_mul_right _ hnc
    have hcur : ∀ t, t < l.length * k → cur[t]? = some (flatK enc k l.toArray)[t]! := by
      intro t ht
      have e1 : (cur.toList.take (l.length * d.sz))[t]? = inner[t]? := by rw [htk]
      rw [hsz, List.getElem?_take, if_pos ht, Array.getElem?_toList, hin, Array.getElem?_toList] at e1
      have ht' : t < (flatK enc k l.toArray).size := by simpa using ht
      rw [e1, getElem!_pos _ t ht', Array.getElem?_eq_getElem ht']
    have hH : HoldsK enc k w b 0 l.toArray := by
      intro t ht
      have ht' : t < l.length * k := by simpa using ht
      rw [Nat.zero_add]
      refine ⟨?_, ?_⟩
      · have := hcur t ht'
        simp [World.cell?, hh, this]
      · simp [World.frozen?, hh]
    have hcon := AnyQ.slices_SortFunc_eq L k aE zE enc hk h1 cf hO g cb b 0 cap l.toArray w eg (fun m os dk _ x y => hcmp x y _) hH hblk (by simpa using hlen)
    simp only [List.size_toArray] at hcon
    refine hcon.mono ?_
    rintro e' w' ⟨rfl, n, os, rfl⟩
    have hsl : (pdq (ltOf cf) l.toArray 0 l.length (Lib.bitLen l.length) true true) = (sortL cf l).toArray := by simp [sortL]
    rw [hsl]
    have hlen2 := sortL_length cf hO l
    generalize sortL cf l = l' at hlen2
    have hblock : (sortWorldK enc k w b 0 n l'.toArray os).heap[b]? = some (.cells (putCells id 0 (flatK enc k l'.toArray) cur) e (0, 0)) := by
      have hb2 : b < (w.heap.modify b (onCells (putCells id 0 (flatK enc k l'.toArray)))).size := by simpa using hblk
      simp only [sortWorldK, grow, putRowK, putRow, mapBlock, Sort.ahead]
      rw [Array.getElem?_append_left (by simpa using hblk), Array.getElem?_modify, if_pos rfl, hh]
      rfl
    have hother : ∀ i, i < w.heap.size → i ≠ b → (sortWorldK enc k w b 0 n l'.toArray os).heap[i]? = w.heap[i]? := by
      intro i hi hne
      simp only [sortWorldK, grow, putRowK, putRow, mapBlock, Sort.ahead]
      rw [Array.getElem?_append_left (by simpa using hi), Array.getElem?_modify, if_neg (Ne.symm hne)]
    refine ⟨rfl, ⟨hok, (flatK enc k l'.toArray).toList, ⟨?_, Or.inr ⟨b, cap, _, by rw [hlen2], hb, hblock, by omega, hcm, by simp [putCells, hcs], ?_⟩⟩, ?_⟩, ⟨rfl, rfl, rfl, by simp [sortWorldK, grow, putRowK, putRow, mapBlock, Sort.ahead], fun i hi hne => hother i hi (fun e => hne (by rw [e]; rfl))⟩⟩
    · simp [hsz]
    · apply List.ext_getElem?
      intro t
      rw [List.getElem?_take]
      by_cases ht : t < l'.length * d.sz
      · have ht1 : t < l'.length * k := by rwa [hsz] at ht
        have ht2 : t < cur.size := by rw [hlen2] at ht1; omega
        have ht3 : t < (flatK enc k l'.toArray).size := by simpa using ht1
        rw [if_pos ht, Array.getElem?_toList, Array.getElem?_toList, Array.getElem?_eq_getElem ht3]
        simp only [putCells, Array.getElem?_mapIdx, Array.getElem?_eq_getElem ht2, Option.map_some]
        rw [if_pos ⟨Nat.zero_le _, by omega⟩, Nat.sub_zero, getElem!_pos _ t ht3]
        rfl
      · rw [if_neg ht, List.getElem?_eq_none (by rw [hsz] at ht; simpa using ht)]
    · refine ⟨by simp [hsz], fun j x hx => ?_⟩
      rw [hsz, flat_toList enc k hk l' j x hx]
      exact hM2 _ _ _ _
end
end Go.Proofs.Ythpheknchikodaa.P

/- The walks of cmp.Compare, of the order of terms, and of slices.SortFunc over them: the terms sorted by the last day on which they may begin. Conditions: none beyond the row's being the call's own. -/
namespace Go.Proofs.Ythpheknchikodaa.P
open Go.RowKit Go.Shelf Go.Sort Go.Proofs.YthpheknchikodaaW.PrintWords Go.Proofs.YthpheknchikodaaW.PrintLast
set_option linter.unusedVariables false
set_option linter.unusedSimpArgs false

/-- cmp.Compare of two whole numbers. -/
def cmpI (x y : Int) : Int := if x < y then -1 else if y < x then 1 else 0
set_option maxHeartbeats 1000000 in
theorem isNaN_calls (x : Int) (w : World) : Calls Try.prog 97 #[.int .i64 x] w fun e w' => e = .returned (.bool false) ∧ w = w' := by
  have h1 : (x != x) = false := by simp
  go_enter Try.func97, Try.ntmps97
  go_wp2
  go_ret
  exact ⟨by first | rfl | simp, rfl⟩
set_option maxHeartbeats 1000000 in
set_option maxRecDepth 100000 in
theorem compare_calls (x y : Int) (w : World) : Calls Try.prog 78 #[.int .i64 x, .int .i64 y] w fun e w' => e = .returned (.int .i64 (cmpI x y)) ∧ w = w' := by
  by_cases h : x < y
  · have h1 : decide (x < y) = true := decide_eq_true h
    have HE := Aside0.mk (show cmpI x y = -1 from if_pos h)
    clear h
    go_enter Try.func78, Try.ntmps78
    go_wp2_with (go_at_call 97; (with_reducible refine (isNaN_calls _ _).mono ?_); rintro e w' ⟨rfl, rfl⟩)
    go_ret
    exact ⟨by rw [HE.out]; rfl, rfl⟩
  · have h1 : decide (x < y) = false := decide_eq_false h
    by_cases h' : y < x
    · have h2 : decide (y < x) = true := decide_eq_true h'
      have HE := Aside0.mk (show cmpI x y = 1 by unfold cmpI; rw [if_neg h, if_pos h'])
      clear h h'
      go_enter Try.func78, Try.ntmps78
      go_wp2_with (go_at_call 97; (with_reducible refine (isNaN_calls _ _).mono ?_); rintro e w' ⟨rfl, rfl⟩)
      go_ret
      exact ⟨by rw [HE.out]; rfl, rfl⟩
    · have h2 : decide (y < x) = false := decide_eq_false h'
      have HE := Aside0.mk (show cmpI x y = 0 by unfold cmpI; rw [if_neg h, if_neg h'])
      clear h h'
      go_enter Try.func78, Try.ntmps78
      go_wp2_with (go_at_call 97; (with_reducible refine (isNaN_calls _ _).mono ?_); rintro e w' ⟨rfl, rfl⟩)
      go_ret
      exact ⟨by rw [HE.out]; rfl, rfl⟩
/-- The cells of a term with its place. -/
def enc122 (x : S122) : List Value := [.int .i64 x.f0.f0, .int .i64 x.f0.f1, .int .i64 x.f0.f2.f0, .int .i64 x.f0.f2.f1, .int .i64 x.f0.f3.f0, .int .i64 x.f0.f3.f1, .int .i64 x.f1, .int .i64 x.f2.f0.f0, .int .i64 x.f2.f0.f1, .int .i64 x.f2.f1.f0, .int .i64 x.f2.f1.f1]
/-- The order of terms. -/
def byHi (x y : S122) : Int := cmpI x.f0.f2.f1 y.f0.f2.f1
theorem ltHi (x y : S122) : ltOf byHi x y = decide (x.f0.f2.f1 < y.f0.f2.f1) := by
  unfold ltOf byHi cmpI
  by_cases h : x.f0.f2.f1 < y.f0.f2.f1
  · simp [h]
  · by_cases h' : y.f0.f2.f1 < x.f0.f2.f1 <;> simp [h, h']
theorem swoHi : SWO (ltOf byHi) where
  irrefl x := by rw [ltHi]; simp
  trans x y z h1 h2 := by rw [ltHi] at *; simp at *; omega
  ntrans x y z h1 h2 := by rw [ltHi] at *; simp at *; omega
instance : Inhabited S122 := ⟨z122⟩
set_option maxHeartbeats 4000000 in
set_option maxRecDepth 100000 in
theorem terms1_calls (x y : S122) (w : World) : Calls Try.prog 77 #[.agg (enc122 x).toArray, .agg (enc122 y).toArray] w fun e w' => e = .returned (.int .i64 (byHi x y)) ∧ ∃ q os', w' = grow (w.drewN q) os' := by
  have HE := Aside0.mk (show byHi x y = cmpI x.f0.f2.f1 y.f0.f2.f1 from rfl)
  have hu122 := Try.underlying122
  have hu59 := Try.underlying59
  have hu49 := Try.underlying49
  simp only [enc122, List.toArray]
  go_enter Try.func77, Try.ntmps77
  go_wp2_with (go_at_call 78; (with_reducible refine (compare_calls _ _ _).mono ?_); rintro e w' ⟨rfl, rfl⟩)
  go_ret
  exact ⟨by rw [HE.out]; rfl, 0, _, by rw [alloc_eq_grow, alloc_eq_grow, grow_grow]; rfl⟩
theorem sortTerms_calls {base : Nat} {ok : Nat → Prop} {v : Value} (l : List S122) (w : World) (h : Kd.R k122 122 w base ok v l) (hlen : l.length < 4611686018427387904) :
    Calls Try.prog 76 #[v, .func (.func 77) #[] #[]] w fun e w' => e = .returned (.tuple #[]) ∧ Kd.R k122 122 w' base ok v (sortL byHi l) ∧ w.grownBy w' v.ownBlock :=
  sort_Kd sortLaid 11 Try.isAgg122 Try.sizeOf122 k122 rfl enc122 (fun _ => rfl) (fun x v hv => by simp [enc122] at hv; rcases hv with rfl | rfl | rfl | rfl | rfl | rfl | rfl | rfl | rfl | rfl | rfl <;> rfl)
    (fun h => k122_openM h) (fun w base ok x => k122_mkM w base ok x) byHi swoHi 77 #[] (enters_ Try.func77 (by kernel_rfl) rfl) (fun x y W => terms1_calls x y W) l w h hlen
end Go.Proofs.Ythpheknchikodaa.P

/- The iterator behind slices.Values over terms: it hands on each of them, in order, to whatever body keeps its two blocks. Conditions: none beyond the list's being readable. -/
namespace Go.Proofs.Ythpheknchikodaa.P
open Go.RowKit Go.Shelf Go.Proofs.YthpheknchikodaaW.PrintWords Go.Proofs.YthpheknchikodaaW.PrintLast
attribute [local go_sem] Oper.semAt_some
set_option linter.unusedVariables false
set_option linter.unusedSimpArgs false

/-- A body keeps two blocks. -/
def Keeps2 (b1 b2 : Nat) (W W' : World) : Prop := W'.heap[b1]? = W.heap[b1]? ∧ W'.heap[b2]? = W.heap[b2]?
theorem Keeps2.trans {b1 b2 : Nat} {A B C : World} (h : Keeps2 b1 b2 A B) (k : Keeps2 b1 b2 B C) : Keeps2 b1 b2 A C := ⟨k.1.trans h.1, k.2.trans h.2⟩
theorem Keeps2.putObj {b1 b2 B : Nat} (h1 : b1 < B) (h2 : b2 < B) (W : World) (l : Nat) (o o' : Obj) (hl : B ≤ l) : Keeps2 b1 b2 W (W.putObj l o') :=
  ⟨World.putObj_heap_other (by omega), World.putObj_heap_other (by omega)⟩
theorem Keeps2.below {b1 b2 : Nat} {W W' : World} (h : Below W.heap.size W W') (h1 : b1 < W.heap.size) (h2 : b2 < W.heap.size) : Keeps2 b1 b2 W W' := ⟨h.block b1 h1, h.block b2 h2⟩
/-- The list lies in block g. -/
def InBlock (w : World) (g : Nat) (A : Option Addr) (l : List S122) : Prop := Kd.C k122 w A l.length l ∧ ∀ ad, A = some ad → ad.block = g
theorem InBlock.kept {w w' : World} {g : Nat} {A : Option Addr} {l : List S122} (h : InBlock w g A l) (hk : w'.heap[g]? = w.heap[g]?) : InBlock w' g A l := by
  refine ⟨⟨h.1.1, h.1.2.1, fun hn => ?_⟩, h.2⟩
  obtain ⟨ad, e, hc⟩ := h.1.2.2 hn
  refine ⟨ad, e, fun j p hp => ?_⟩
  obtain ⟨c, h1, h2, h3⟩ := hc j p hp
  obtain rfl := k122_open h2
  refine ⟨_, h1, k122_mk w' p, fun i u hu => ?_⟩
  have h4 := h3 i u hu
  have hb : (ad.add (j * k122.sz + i)).block = g := by
    have := h.2 ad e
    unfold Addr.add
    split <;> exact this
  unfold World.cell? at h4 ⊢
  rw [hb] at h4 ⊢
  rw [hk]
  exact h4
set_option maxRecDepth 100000 in
set_option maxHeartbeats 2000000 in
theorem iter_in {α : Type} (prj : α → S122) (L : List α) (F : Fence) (n : Nat) (h100 : F.fn 100) (hro : F.round = none) (hn : 1 ≤ n) (lp Bs g c : Nat) (A : Option Addr) (l : List S122) (hLl : l = L.map prj) (hl : l.length ≤ 1000000000) (J Jx : List α → World → Prop)
    (hJa : ∀ (pre : List α) (W : World) (o : Obj), J pre W → J pre (W.alloc o))
    (hY : ∀ pre x W, J pre W → pre.length < l.length → YieldAt F (n - 1) Try.prog lp #[.agg (enc122 (prj x)).toArray] W fun e W' =>
      (e = .returned (.bool true) ∧ J (pre ++ [x]) W' ∧ Keeps2 Bs g W W' ∧ W.heap.size ≤ W'.heap.size) ∨ (e = .returned (.bool false) ∧ Jx (pre ++ [x]) W'))
    (W : World) (hBs : W.heap[Bs]? = some (.cells #[.slice A l.length c] 145 (0, 0))) (hg : g < W.heap.size) (hC : InBlock W g A l) (h0 : J [] W) :
    CallsIn F n Try.prog 100 #[.func (.yield lp) #[] #[], .pointer (some ⟨Bs, 0, none⟩)] W fun e W' => (∃ v, e = .returned v) ∧
      ((∃ ys, ys = L ∧ J ys W') ∨ (∃ pre, (∃ k, pre = L.take k) ∧ Jx pre W')) := by
  have hBs1 := (blk_cell hBs 0).trans (show _ = some (Value.slice A l.length c) from rfl)
  have hBlt := blk_lt hBs
  have HBS := Aside0.mk hBs
  have HC := Aside0.mk hC
  have HG := Aside0.mk hg
  have HJA := Aside0.mk hJa
  have hu122 := Try.underlying122
  have HLL := Aside0.mk hLl
  clear hBs hC hg hJa hLl
  refine callsIn_of_wp Try.func100 rfl h100 ?_ hro
  simp only [Try.ntmps100, List.size_toArray, List.length_cons, List.length_nil, Nat.reduceAdd, Nat.reduceSub, Array.replicate_succ, Array.replicate_zero, List.push_toArray, List.append_toArray, List.nil_append, List.cons_append]
  gi_wp2
  gi_loopw [7] (fun v wr => ∃ i : Int, 0 ≤ i ∧ i ≤ l.length ∧ v = .int .i64 i ∧ J (L.take i.toNat) wr ∧ Aside0 (Keeps2 Bs g W wr ∧ W.heap.size ≤ wr.heap.size))
    (fun v _ => (l.length - intOf v).toNat)
  case atStart => exact ⟨0, by omega, by omega, rfl, h0, ⟨⟨rfl, rfl⟩, Nat.le_refl _⟩⟩
  case round =>
    obtain ⟨i, hi0, hi1, rfl, hJs, HK⟩ := hrel
    by_cases hlt : i < (l.length : Int)
    · have c0 : decide (i < (l.length : Int)) = true := decide_eq_true hlt
      obtain ⟨ad, hA, g0, g1, g2, g3, g4, g5, g6, g7, g8, g9, g10⟩ := at_T122 (HC.out.kept HK.out.1.2).1 i hi0 hlt
      cases hA
      have h' : i.toNat < L.length := by
        have hLn : L.length = l.length := by rw [HLL.out, List.length_map]
        omega
      obtain ⟨xi, hxi⟩ : ∃ xi, xi = L[i.toNat] := ⟨_, rfl⟩
      have hpx : prj xi = rd_T122 l i := by
        have h2 : i.toNat < l.length := by omega
        simp only [rd_T122, List.getD_eq_getElem?_getD, List.getElem?_eq_getElem h2, Option.getD_some, hxi]
        simp [HLL.out]
      have hst := Aside0.mk (show L.take (i + 1).toNat = L.take i.toNat ++ [xi] by
        rw [show (i + 1).toNat = i.toNat + 1 by omega, List.take_succ_eq_append_getElem h', hxi])
      have hlen := Aside0.mk (show (L.take i.toNat).length < l.length by rw [List.length_take]; omega)
      have hpx := Aside0.mk hpx
      clear hxi h'
      have hw : wrap64 (i + 1) = i + 1 := by unfold wrap64; omega
      have HI := Aside0.mk (show 0 ≤ i ∧ i < (l.length : Int) from ⟨hi0, hlt⟩)
      replace hi0 := eq_true hi0
      replace hlt := eq_true hlt
      obtain ⟨fn, tmps, assign, body, hy, hR⟩ := hY (L.take i.toNat) xi (wr.alloc (.cells (enc122 (rd_T122 l i)).toArray 122)) (HJA.out _ _ _ hJs) hlen.out
      rw [hpx.out] at hy
      have HR := Aside0.mk hR
      clear hR
      simp only [enc122] at hy
      gi_wp2
      refine HR.out.mono ?_
      rintro e W3 (⟨rfl, hJ3, hk3, hsz3⟩ | ⟨rfl, hJx3⟩)
      · have HK3 := Aside0.mk (show Keeps2 Bs g W W3 ∧ W.heap.size ≤ W3.heap.size from ⟨(HK.out.1.trans (Keeps2.below (below_alloc (Below.refl _ _) _) (by have := HK.out.2; omega) (by have := HK.out.2; have := HG.out; omega))).trans hk3, by have h := hsz3; simp at h; have := HK.out.2; omega⟩)
        clear hk3 hsz3
        gi_wp2
        go_roundw
        case rel => exact ⟨i + 1, by have := HI.out; omega, by have := HI.out; omega, by first | rfl | rw [hw], by rw [hst.out]; exact hJ3, HK3⟩
        case measure => have := HI.out; simp [intOf]; omega
      · gi_wp2
        refine bodyPost_ret (results_none rfl _ _ _) rfl ?_
        exact ⟨⟨_, rfl⟩, .inr ⟨_, ⟨(i + 1).toNat, hst.out.symm⟩, hJx3⟩⟩
    · have c0 : decide (i < (l.length : Int)) = false := decide_eq_false hlt
      have HE := Aside0.mk (show L.take i.toNat = L from List.take_of_length_le (by have := congrArg List.length HLL.out; rw [List.length_map] at this; omega))
      rw [HE.out] at hJs
      clear hlt
      gi_wp2
      go_end0
      exact ⟨⟨_, rfl⟩, .inl ⟨_, rfl, hJs⟩⟩
/-- The iterator's contract, in the kit's form. -/
theorem iter_stops {α : Type} (prj : α → S122) (L : List α) (F : Fence) (n : Nat) (h100 : F.fn 100) (hro : F.round = none) (hn : 1 ≤ n) (Bs g c : Nat) (A : Option Addr) (l : List S122) (hLl : l = L.map prj) (hl : l.length ≤ 1000000000) (w : World)
    (hBs : w.heap[Bs]? = some (.cells #[.slice A l.length c] 145 (0, 0))) (hg : g < w.heap.size) (hC : InBlock w g A l) :
    SeqStopsK F n Try.prog 100 #[.pointer (some ⟨Bs, 0, none⟩)] (fun x : α => #[.agg (enc122 (prj x)).toArray]) (fun W W' => Keeps2 Bs g W W' ∧ W.heap.size ≤ W'.heap.size) (fun ys => ys = L) (fun pre => ∃ k, pre = L.take k) l.length w := fun lp J Jx W hW hJ hJx hY h0 => by
  have hlt := blk_lt hBs
  refine (iter_in prj L F n h100 hro hn lp Bs g c A l hLl hl J Jx (fun pre W o hj => hJ pre W _ none hj (World.grownBy_alloc W o none) (fun r e => by cases e)) ?_ W ((hW.block Bs hlt).trans hBs) (Nat.lt_of_lt_of_le hg hW.size) (hC.kept (hW.block g hg)) h0).mono ?_
  · intro pre x W1 hj hp
    exact hY pre x W1 hj hp
  · exact fun e W' h => h
end Go.Proofs.Ythpheknchikodaa.P

/- The walks of Range.has and of the two questions that holds asks of a term: each answers what its plain word says. Conditions: none. -/
namespace Go.Proofs.Ythpheknchikodaa.P
open Go.RowKit Go.Proofs.YthpheknchikodaaW.PrintWords Go.Proofs.YthpheknchikodaaW.PrintLast
set_option linter.unusedVariables false
set_option linter.unusedSimpArgs false

set_option maxHeartbeats 1000000 in
set_option maxRecDepth 100000 in
theorem has_calls (lo hi day : Int) (w : World) :
    Calls Try.prog 70 #[.agg #[.int .i64 lo, .int .i64 hi], .int .i64 day] w fun e w' => e = .returned (.bool (withinB day lo hi)) ∧ Below w.heap.size w w' := by
  have hu49 := Try.underlying49
  go_enter Try.func70, Try.ntmps70
  go_wp2_with fail
  refine (within_calls _ _ _ _).mono ?_
  rintro e w' ⟨rfl, rfl⟩
  go_wp2
  go_ret
  exact ⟨rfl, (Below.refl _ _).alloc (Nat.le_refl _) _⟩
/-- Does somebody surely hold it by this term? -/
def sureB (day : Int) (x : S122) : Bool := withinB day x.f0.f2.f1 (wrap64 (x.f0.f3.f0 - 1))
/-- Does somebody perhaps hold it by this term? -/
def maybeB (day : Int) (x : S122) : Bool := withinB day x.f2.f0.f0 (wrap64 (x.f2.f1.f1 - 1))
set_option maxHeartbeats 2000000 in
set_option maxRecDepth 100000 in
theorem sure_calls (x : S122) (day : Int) (q : Nat) (w : World) (hc : w.cell? ⟨q, 0, none⟩ = some (.int .i64 day)) :
    Calls Try.prog 74 #[.agg (enc122 x).toArray, .pointer (some ⟨q, 0, none⟩)] w fun e w' => e = .returned (.bool (sureB day x)) ∧ Below w.heap.size w w' := by
  have hu122 := Try.underlying122
  have hu59 := Try.underlying59
  have hu49 := Try.underlying49
  have hc2 := fun O => pw_cell_below ((Below.refl w.heap.size w).alloc (Nat.le_refl _) O) hc
  have HB0 := fun O => Aside0.mk ((Below.refl w.heap.size w).alloc (Nat.le_refl _) O)
  clear hc
  simp only [enc122, List.toArray]
  go_enter Try.func74, Try.ntmps74
  go_wp2_with fail
  refine (has_calls _ _ _ _).mono ?_
  rintro e w1 ⟨rfl, hb1⟩
  have HB1 := Aside0.mk (below_then (HB0 _).out (HB0 _).out.size hb1)
  clear hb1
  go_wp2
  go_ret
  exact ⟨rfl, HB1.out⟩
set_option maxHeartbeats 2000000 in
set_option maxRecDepth 100000 in
theorem maybe_calls (x : S122) (day : Int) (q : Nat) (w : World) (hc : w.cell? ⟨q, 0, none⟩ = some (.int .i64 day)) :
    Calls Try.prog 75 #[.agg (enc122 x).toArray, .pointer (some ⟨q, 0, none⟩)] w fun e w' => e = .returned (.bool (maybeB day x)) ∧ Below w.heap.size w w' := by
  have hu122 := Try.underlying122
  have hu51 := Try.underlying51
  have hu49 := Try.underlying49
  have hc2 := fun O => pw_cell_below ((Below.refl w.heap.size w).alloc (Nat.le_refl _) O) hc
  have HB0 := fun O => Aside0.mk ((Below.refl w.heap.size w).alloc (Nat.le_refl _) O)
  clear hc
  simp only [enc122, List.toArray]
  go_enter Try.func75, Try.ntmps75
  go_wp2_with fail
  refine (has_calls _ _ _ _).mono ?_
  rintro e w1 ⟨rfl, hb1⟩
  have HB1 := Aside0.mk (below_then (HB0 _).out (HB0 _).out.size hb1)
  clear hb1
  go_wp2
  go_ret
  exact ⟨rfl, HB1.out⟩
end Go.Proofs.Ythpheknchikodaa.P

/- The walks of latest and earliest at two days: the greater one, the lesser one. Conditions: the list holds two numbers. -/
namespace Go.Proofs.Ythpheknchikodaa.P
open Go.RowKit Go.Proofs.YthpheknchikodaaW.PrintWords Go.Proofs.YthpheknchikodaaW.PrintLast
attribute [local go_sem] max2_int min2_int max_two min_two
set_option linter.unusedVariables false
set_option linter.unusedSimpArgs false

set_option maxHeartbeats 1000000 in
set_option maxRecDepth 100000 in
theorem slicesMax_calls (A : Option Addr) (c : Nat) (a b : Int) (w : World) (hr : Kd.C (Kd.int .i64) w A 2 [a, b]) :
    Calls Try.prog 98 #[.slice A 2 c] w fun e w' => e = .returned (.int .i64 (mx a b)) ∧ w = w' := by
  obtain ⟨ad, hA, h0⟩ := Kd.at_int hr 0 (by omega) (by omega)
  obtain ⟨ad', hA', h1⟩ := Kd.at_int hr 1 (by omega) (by omega)
  subst hA
  cases hA'
  have g0 : w.cell? ad = some (.int .i64 a) := by have h := h0; rw [show (0 : Int).toNat = 0 from rfl, Addr.add_zero'] at h; exact h
  have g1 : w.cell? ⟨ad.block, ad.off + 1, none⟩ = some (.int .i64 b) := by have h := h1; rwa [show (1 : Int).toNat = 1 from rfl, show ad.add 1 = ⟨ad.block, ad.off + 1, none⟩ from add_field ad 0 1 (by omega)] at h
  clear h0 h1 hr
  go_enter Try.func98, Try.ntmps98
  go_wp2
  go_rounds 2
  all_goals
    go_ret
    exact ⟨by unfold mx; first | (rw [if_pos (by assumption)]; rfl) | (rw [if_neg (by omega)]; rfl), rfl⟩
def office_latest.f (l0 : List Int) : Option Int := match l0 with | [a, b] => some (mx a b) | _ => none
theorem office_latest.calls (A0 : Option Addr) (c0 : Nat) (l0 : List Int) (r : Int) (w : World) (hr0 : Kd.C (Kd.int .i64) w A0 l0.length l0) (hc0 : l0.length ≤ c0) (h : office_latest.f l0 = some r) :
    Calls Try.prog 79 #[.slice A0 l0.length c0] w fun e w' => e = .returned (.int .i64 r) ∧ Below w.heap.size w w' := by
  match l0, hr0, h with
  | [a, b], hr0, h =>
    obtain rfl := Option.some.inj h
    have HR := Aside0.mk hr0
    clear hr0 h
    go_enter Try.func79, Try.ntmps79
    go_wp2_with fail
    refine (slicesMax_calls A0 c0 a b _ HR.out).mono ?_
    rintro e w' ⟨rfl, rfl⟩
    go_wp2
    go_ret
    exact ⟨rfl, Below.refl _ _⟩
set_option maxHeartbeats 1000000 in
set_option maxRecDepth 100000 in
theorem slicesMin_calls (A : Option Addr) (c : Nat) (a b : Int) (w : World) (hr : Kd.C (Kd.int .i64) w A 2 [a, b]) :
    Calls Try.prog 99 #[.slice A 2 c] w fun e w' => e = .returned (.int .i64 (mn a b)) ∧ w = w' := by
  obtain ⟨ad, hA, h0⟩ := Kd.at_int hr 0 (by omega) (by omega)
  obtain ⟨ad', hA', h1⟩ := Kd.at_int hr 1 (by omega) (by omega)
  subst hA
  cases hA'
  have g0 : w.cell? ad = some (.int .i64 a) := by have h := h0; rw [show (0 : Int).toNat = 0 from rfl, Addr.add_zero'] at h; exact h
  have g1 : w.cell? ⟨ad.block, ad.off + 1, none⟩ = some (.int .i64 b) := by have h := h1; rwa [show (1 : Int).toNat = 1 from rfl, show ad.add 1 = ⟨ad.block, ad.off + 1, none⟩ from add_field ad 0 1 (by omega)] at h
  clear h0 h1 hr
  go_enter Try.func99, Try.ntmps99
  go_wp2
  go_rounds 2
  all_goals
    go_ret
    exact ⟨by unfold mn; first | (rw [if_pos (by assumption)]; rfl) | (rw [if_neg (by omega)]; rfl), rfl⟩
def office_earliest.f (l0 : List Int) : Option Int := match l0 with | [a, b] => some (mn a b) | _ => none
theorem office_earliest.calls (A0 : Option Addr) (c0 : Nat) (l0 : List Int) (r : Int) (w : World) (hr0 : Kd.C (Kd.int .i64) w A0 l0.length l0) (hc0 : l0.length ≤ c0) (h : office_earliest.f l0 = some r) :
    Calls Try.prog 80 #[.slice A0 l0.length c0] w fun e w' => e = .returned (.int .i64 r) ∧ Below w.heap.size w w' := by
  match l0, hr0, h with
  | [a, b], hr0, h =>
    obtain rfl := Option.some.inj h
    have HR := Aside0.mk hr0
    clear hr0 h
    go_enter Try.func80, Try.ntmps80
    go_wp2_with fail
    refine (slicesMin_calls A0 c0 a b _ HR.out).mono ?_
    rintro e w' ⟨rfl, rfl⟩
    go_wp2
    go_ret
    exact ⟨rfl, Below.refl _ _⟩
end Go.Proofs.Ythpheknchikodaa.P
