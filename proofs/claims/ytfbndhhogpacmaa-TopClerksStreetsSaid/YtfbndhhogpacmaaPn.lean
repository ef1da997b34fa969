import Derived.Test.YtfbndhhogpacmaaPm
import Derived.Deep.QuietTactic
import Derived.BigQuiet
/-! TopClerksStreets: the walk. Written by made8b.py out of D8.src. -/
namespace Go.Proofs.Ytfbndhhogpacmaa
open Go.RowKit Go.Shelf
open Go.Proofs.YtfbndhhogpacmaaW.PrintWords Go.Proofs.YtfbndhhogpacmaaW.PrintLast Go.Proofs.YtfbndhhogpacmaaW.PrintMore Go.Proofs.Ytfbndhhogpacmaa.T
set_option linter.unusedVariables false
set_option linter.unusedSimpArgs false
def clerks.T2 : Bool × List (List Nat × List Nat) := (true, [([], []), ([0], [0]), ([1], [1]), ([], []), ([3], [3]), ([4], [4]), ([], []), ([6], [6]), ([7], [7]), ([], []), ([], []), ([], []), ([9, 2, 0, 1, 2, 9, 10, 11], [2, 9]), ([10, 5, 12, 0, 1, 2, 3, 4, 5, 9, 10, 11, 12], [5, 10]), ([11, 8, 13, 0, 1, 2, 3, 4, 5, 6, 7, 8, 9, 10, 11, 12, 13], [8, 11])])
def clerks.B2 : List Nat := [0, 1, 3, 0, 8, 24, 0, 64, 192, 0, 0, 0, 3591, 7743, 16383]
theorem clerks.tab2 : rtab .any (opsOf Try.f3 2) = clerks.T2 := by kernel_rfl
theorem clerks.bits2 : waitsOk clerks.T2.2 clerks.B2 = true := by kernel_rfl
def clerks.T9 : Bool × List (List Nat × List Nat) := (true, [([], []), ([0], [0]), ([], []), ([2], [2]), ([], []), ([4], [4]), ([3, 5], [3, 5]), ([2, 3, 4, 5, 6], []), ([7, 6, 6, 2, 3, 4, 5, 6], [6, 7]), ([1], [1]), ([9, 0, 1, 2, 3, 4, 5, 6, 7, 8], [9]), ([10, 8, 0, 1, 2, 3, 4, 5, 6, 7, 8], [10])])
def clerks.B9 : List Nat := [0, 1, 0, 4, 0, 16, 60, 124, 252, 3, 1023, 2047]
theorem clerks.tab9 : rtab .any (opsOf Try.f3 9) = clerks.T9 := by kernel_rfl
theorem clerks.bits9 : waitsOk clerks.T9.2 clerks.B9 = true := by kernel_rfl
def clerks.T10 : Bool × List (List Nat × List Nat) := (true, [([], []), ([0], [0]), ([], []), ([2], [2]), ([], []), ([4], [4]), ([3, 5], [3, 5]), ([2, 3, 4, 5, 6], []), ([7, 6, 6, 2, 3, 4, 5, 6], [6, 7]), ([1], [1]), ([9, 0, 1, 2, 3, 4, 5, 6, 7, 8], [9]), ([10, 8, 0, 1, 2, 3, 4, 5, 6, 7, 8], [10])])
def clerks.B10 : List Nat := [0, 1, 0, 4, 0, 16, 60, 124, 252, 3, 1023, 2047]
theorem clerks.tab10 : rtab .any (opsOf Try.f3 10) = clerks.T10 := by kernel_rfl
theorem clerks.bits10 : waitsOk clerks.T10.2 clerks.B10 = true := by kernel_rfl
def clerks.T53 : Bool × List (List Nat × List Nat) := (true, [([], []), ([0], [0]), ([], []), ([], []), ([2, 3], [2, 3]), ([4], [4]), ([5], [5]), ([1, 6, 1], [1, 6]), ([7], [7]), ([8], [8]), ([8], [8]), ([9, 7, 0, 1, 2, 3, 4, 5, 6, 7, 8, 9], [9]), ([10, 11, 0, 1, 2, 3, 4, 5, 6, 7, 8, 9, 10, 11], [10])])
def clerks.B53 : List Nat := [0, 1, 0, 0, 12, 28, 60, 127, 255, 511, 511, 1023, 4095]
theorem clerks.tab53 : rtab .any (opsOf Try.f3 53) = clerks.T53 := by kernel_rfl
theorem clerks.bits53 : waitsOk clerks.T53.2 clerks.B53 = true := by kernel_rfl
/-- The bit of a number. -/
def bitOf (wh : Int) (i : Nat) : Bool := bits .and .u8 (wh / 2 ^ i) 1 == 1
set_option maxRecDepth 100000 in
set_option maxHeartbeats 16000000 in
theorem clerks_ok (A0 : Option Addr) (c0 : Nat) (xs : List (Int × Int × Int)) (wh : Int) (bx : ∀ x ∈ xs, OkByte x.1 ∧ OkByte x.2.1 ∧ OkByte x.2.2) (bw : OkByte wh) (w : World) (hC0 : k3.C w A0 xs.length xs) :
    Calls Try.prog 3 #[.slice A0 xs.length c0, .int .u8 wh] w fun e w' => e = .returned (.bool true) ∧ Below w.heap.size w w' := by
  have HTM := Lib.hid (townMade8_ok A0 c0 xs bx hC0.2.1 w hC0)
  have hw0 := bw.1
  have hw1 := bw.2
  clear hC0 bx bw
  go_enter Try.func3, Try.ntmps3
  go_wp2_with fail
  refine HTM.out.mono ?_
  clear HTM
  rintro e w1 ⟨chg, u1, u2, rfl, h8, good, hch, hr1, hr2, hb⟩
  obtain ⟨B1, j1, rfl⟩ := Kd.R_slice hr1
  obtain ⟨B2, j2, rfl⟩ := Kd.R_slice hr2
  rw [show first3.length = 3 from rfl] at hr1 ⊢
  have c1 := Kd.R_reads' hr1
  have c2 := Kd.R_reads' hr2
  rw [show first3.length = 3 from rfl] at c1
  have H8 := Aside0.mk h8
  have HG := Aside0.mk good
  have K1 := Aside0.mk c1.2.2
  have K2 := Aside0.mk c2.2.2
  have hj1 := c1.2.1
  have hj2 := c2.2.1
  have HF2 : Aside0 (0 < chg.length → ∃ g2, B2 = some ⟨g2, 0, none⟩ ∧ g2 < w1.heap.size) := ⟨fun hp => by
    obtain ⟨g2, _, e, _, hg, _⟩ := Kd.R_form hr2 hp
    cases e
    exact ⟨g2, rfl, hg⟩⟩
  have HB1 := Aside0.mk hb
  clear h8 good hr1 hr2 c1 c2 hb
  go_upto_region 2 with fail
  have BK5 := Aside0.mk (blk_new w1 (.cells #[.slice B1 3 j1, .slice B2 chg.length j2] 27))
  have HB5 := Aside0.mk (below_alloc (Below.refl w1.heap.size w1) (.cells #[.slice B1 3 j1, .slice B2 chg.length j2] 27))
  generalize w1.alloc (.cells #[.slice B1 3 j1, .slice B2 chg.length j2] 27) = wi at BK5 HB5 ⊢
  obtain ⟨g5, hg5⟩ : ∃ g, g = w1.heap.size := ⟨_, rfl⟩
  have hB5 : w1.heap.size ≤ g5 := by omega
  rw [← hg5] at BK5 ⊢
  clear hg5
  go_cut [6, 7, 8] from 42 to 50 (fun s6 s7 s8 wx => ∃ g6 g7 g8 : Nat, s6 = .pointer (some ⟨g6, 0, none⟩) ∧ s7 = .pointer (some ⟨g7, 0, none⟩) ∧ s8 = .pointer (some ⟨g8, 0, none⟩) ∧ w1.heap.size ≤ g6 ∧ w1.heap.size ≤ g7 ∧ w1.heap.size ≤ g8 ∧ g5 ≠ g6 ∧ g5 ≠ g7 ∧ g5 ≠ g8 ∧ g6 ≠ g7 ∧ g6 ≠ g8 ∧ g7 ≠ g8
      ∧ Aside0 (wx.heap[g5]? = some (.cells #[.slice B1 3 j1, .slice B2 chg.length j2] 27 (0, 0))) ∧ Aside0 (wx.heap[g6]? = some (.cells #[.slice B1 3 j1, .slice none 0 0] 27 (0, 0))) ∧ Aside0 (wx.heap[g7]? = some (.cells #[.slice B1 3 j1, .slice none 0 0] 27 (0, 0))) ∧ Aside0 (wx.heap[g8]? = some (.cells #[.slice B1 3 j1, .slice none 0 0] 27 (0, 0))) ∧ Aside0 (Below w1.heap.size w1 wx))
  case first =>
    clear_value *
    as_aux_lemma =>
      refine start_ (n := 15) (S := fun w' => True) (ds := []) #[false, false, false, false, false, false, false, false, false, false, false, false, false, false, false] (by kernel_rfl) rfl rfl trivial (fun hHeld => ?_)
      refine with_tabW clerks.tab2 clerks.bits2 (fun HT_ HW_ => ?_)
      have FB := Aside0.mk (below_drew HB5.out)
      have G5 := Aside0.mk (blk_drew BK5.out)
      generalize wi.drew = w8 at FB G5 ⊢
      refine inv_at [0, 1, 2, 3, 4, 5, 6, 7, 8, 9, 10, 11, 12, 13, 14] (fun a0_ b a w' => ∃ (g6_ : Nat) (g7_ : Nat) (g8_ : Nat) (m9_ : Value) (m10_ : Value) (m11_ : Value), a = putSel a0_ b [(0, 42, .pointer (some ⟨g5, 0, none⟩)), (1, 43, .slice B1 3 j1), (2, 44, .agg #[.slice B1 3 j1, .slice none 0 0]), (3, 45, .pointer (some ⟨g5, 0, none⟩)), (4, 46, .slice B1 3 j1), (5, 47, .agg #[.slice B1 3 j1, .slice none 0 0]), (6, 48, .pointer (some ⟨g5, 0, none⟩)), (7, 49, .slice B1 3 j1), (8, 50, .agg #[.slice B1 3 j1, .slice none 0 0]), (9, 6, m9_), (10, 7, m10_), (11, 8, m11_)] ∧ (Below w1.heap.size w1 w') ∧ (w'.heap[g5]? = some (.cells #[.slice B1 3 j1, .slice B2 chg.length j2] 27 (0, 0))) ∧ (b 9 = true → b 12 = false → w'.heap[g6_]? = some (.cells #[.slice none 0 0, .slice none 0 0] 27 (0, 0))) ∧ (b 9 = true → b 12 = true → w'.heap[g6_]? = some (.cells #[.slice B1 3 j1, .slice none 0 0] 27 (0, 0))) ∧ (b 9 = true → w1.heap.size ≤ g6_) ∧ (b 9 = true → g6_ < w'.heap.size) ∧ (b 9 = true → g5 ≠ g6_) ∧ (b 10 = true → b 13 = false → w'.heap[g7_]? = some (.cells #[.slice none 0 0, .slice none 0 0] 27 (0, 0))) ∧ (b 10 = true → b 13 = true → w'.heap[g7_]? = some (.cells #[.slice B1 3 j1, .slice none 0 0] 27 (0, 0))) ∧ (b 10 = true → w1.heap.size ≤ g7_) ∧ (b 10 = true → g7_ < w'.heap.size) ∧ (b 10 = true → g5 ≠ g7_) ∧ (b 11 = true → b 14 = false → w'.heap[g8_]? = some (.cells #[.slice none 0 0, .slice none 0 0] 27 (0, 0))) ∧ (b 11 = true → b 14 = true → w'.heap[g8_]? = some (.cells #[.slice B1 3 j1, .slice none 0 0] 27 (0, 0))) ∧ (b 11 = true → w1.heap.size ≤ g8_) ∧ (b 11 = true → g8_ < w'.heap.size) ∧ (b 11 = true → g5 ≠ g8_) ∧ (b 9 = true → b 10 = true → g6_ ≠ g7_) ∧ (b 9 = true → b 11 = true → g6_ ≠ g8_) ∧ (b 10 = true → b 11 = true → g7_ ≠ g8_) ∧ (b 9 = true → (m9_ : Value) = .pointer (some ⟨g6_, 0, none⟩)) ∧ (b 10 = true → (m10_ : Value) = .pointer (some ⟨g7_, 0, none⟩)) ∧ (b 11 = true → (m11_ : Value) = .pointer (some ⟨g8_, 0, none⟩))) HT_.out HW_.out (by kernel_rfl) (by kernel_rfl) ?_ ?_ ?_
      · exact ⟨0, 0, 0, .bool false, .bool false, .bool false, by simp only [putSel, Bool.false_eq_true, if_false], FB.out, G5.out, fun h_ => absurd h_ (by decide), fun h_ => absurd h_ (by decide), fun h_ => absurd h_ (by decide), fun h_ => absurd h_ (by decide), fun h_ => absurd h_ (by decide), fun h_ => absurd h_ (by decide), fun h_ => absurd h_ (by decide), fun h_ => absurd h_ (by decide), fun h_ => absurd h_ (by decide), fun h_ => absurd h_ (by decide), fun h_ => absurd h_ (by decide), fun h_ => absurd h_ (by decide), fun h_ => absurd h_ (by decide), fun h_ => absurd h_ (by decide), fun h_ => absurd h_ (by decide), fun h_ => absurd h_ (by decide), fun h_ => absurd h_ (by decide), fun h_ => absurd h_ (by decide), fun h_ => absurd h_ (by decide), fun h_ => absurd h_ (by decide), fun h_ => absurd h_ (by decide)⟩
      · skip
        clear FB G5
        refine steps_cons ?_ ?_
        · rintro b a w' ⟨g6_, g7_, g8_, m9_, m10_, m11_, ha, Q_FB, Q_G5, Q_G6Z, Q_G6, Q_B6, Q_L6, Q_N56, Q_G7Z, Q_G7, Q_B7, Q_L7, Q_N57, Q_G8Z, Q_G8, Q_B8, Q_L8, Q_N58, Q_N67, Q_N68, Q_N78, Q_X9_, Q_X10_, Q_X11_⟩ hb_ hon hoff
          refine ⟨_, rfl, fun K hK => ?_⟩
          have e5 : a.tmps[5]? = some (.pointer (some ⟨g5, 0, none⟩)) := by rw [ha]; exact (putSel_off rfl).trans rfl
          replace ha := Aside0.mk ha
          have FB := Aside0.mk Q_FB
          have G5 := Aside0.mk Q_G5
          refine value_ (w1 := w') (v := .pointer (some ⟨g5, 0, none⟩)) (by rfl) rfl ?_ ?_
          · go_simp
            (try simp only [i64_w])
            try rfl
          refine hK.out _ _ ⟨g6_, g7_, g8_, m9_, m10_, m11_, (by rw [ha.out]; exact putSel_upk 0 hb_ rfl rfl rfl), Q_FB, Q_G5, Q_G6Z, fun _ h1_ => absurd ((hoff 12 (by kernel_rfl)).symm.trans h1_) (by decide), Q_B6, Q_L6, Q_N56, Q_G7Z, fun _ h1_ => absurd ((hoff 13 (by kernel_rfl)).symm.trans h1_) (by decide), Q_B7, Q_L7, Q_N57, Q_G8Z, fun _ h1_ => absurd ((hoff 14 (by kernel_rfl)).symm.trans h1_) (by decide), Q_B8, Q_L8, Q_N58, Q_N67, Q_N68, Q_N78, Q_X9_, Q_X10_, Q_X11_⟩
        refine steps_cons ?_ ?_
        · rintro b a w' ⟨g6_, g7_, g8_, m9_, m10_, m11_, ha, Q_FB, Q_G5, Q_G6Z, Q_G6, Q_B6, Q_L6, Q_N56, Q_G7Z, Q_G7, Q_B7, Q_L7, Q_N57, Q_G8Z, Q_G8, Q_B8, Q_L8, Q_N58, Q_N67, Q_N68, Q_N78, Q_X9_, Q_X10_, Q_X11_⟩ hb_ hon hoff
          refine ⟨_, rfl, fun K hK => ?_⟩
          have e42 : a.tmps[42]? = some (.pointer (some ⟨g5, 0, none⟩)) := by rw [ha]; exact putSel_on (e := (0, 42, .pointer (some ⟨g5, 0, none⟩))) 0 rfl rfl (hon 0 (by kernel_rfl)) rfl
          replace ha := Aside0.mk ha
          have FB := Aside0.mk Q_FB
          have G5 := Aside0.mk Q_G5
          have c0_ : w'.cell? ⟨g5, 0, none⟩ = some (.slice B1 3 j1) := (blk_cell G5.out 0).trans rfl
          refine value_ (w1 := w') (v := .slice B1 3 j1) (by rfl) rfl ?_ ?_
          · go_simp
            (try simp only [i64_w])
            try rfl
          refine hK.out _ _ ⟨g6_, g7_, g8_, m9_, m10_, m11_, (by rw [ha.out]; exact putSel_upk 1 hb_ rfl rfl rfl), Q_FB, Q_G5, Q_G6Z, fun _ h1_ => absurd ((hoff 12 (by kernel_rfl)).symm.trans h1_) (by decide), Q_B6, Q_L6, Q_N56, Q_G7Z, fun _ h1_ => absurd ((hoff 13 (by kernel_rfl)).symm.trans h1_) (by decide), Q_B7, Q_L7, Q_N57, Q_G8Z, fun _ h1_ => absurd ((hoff 14 (by kernel_rfl)).symm.trans h1_) (by decide), Q_B8, Q_L8, Q_N58, Q_N67, Q_N68, Q_N78, Q_X9_, Q_X10_, Q_X11_⟩
        refine steps_cons ?_ ?_
        · rintro b a w' ⟨g6_, g7_, g8_, m9_, m10_, m11_, ha, Q_FB, Q_G5, Q_G6Z, Q_G6, Q_B6, Q_L6, Q_N56, Q_G7Z, Q_G7, Q_B7, Q_L7, Q_N57, Q_G8Z, Q_G8, Q_B8, Q_L8, Q_N58, Q_N67, Q_N68, Q_N78, Q_X9_, Q_X10_, Q_X11_⟩ hb_ hon hoff
          refine ⟨_, rfl, fun K hK => ?_⟩
          have e43 : a.tmps[43]? = some (.slice B1 3 j1) := by rw [ha]; exact putSel_on (e := (1, 43, .slice B1 3 j1)) 1 rfl rfl (hon 1 (by kernel_rfl)) rfl
          replace ha := Aside0.mk ha
          have FB := Aside0.mk Q_FB
          have G5 := Aside0.mk Q_G5
          refine value_ (w1 := w') (v := .agg #[.slice B1 3 j1, .slice none 0 0]) (by rfl) rfl ?_ ?_
          · go_simp
            (try simp only [i64_w])
            try rfl
          refine hK.out _ _ ⟨g6_, g7_, g8_, m9_, m10_, m11_, (by rw [ha.out]; exact putSel_upk 2 hb_ rfl rfl rfl), Q_FB, Q_G5, Q_G6Z, fun _ h1_ => absurd ((hoff 12 (by kernel_rfl)).symm.trans h1_) (by decide), Q_B6, Q_L6, Q_N56, Q_G7Z, fun _ h1_ => absurd ((hoff 13 (by kernel_rfl)).symm.trans h1_) (by decide), Q_B7, Q_L7, Q_N57, Q_G8Z, fun _ h1_ => absurd ((hoff 14 (by kernel_rfl)).symm.trans h1_) (by decide), Q_B8, Q_L8, Q_N58, Q_N67, Q_N68, Q_N78, Q_X9_, Q_X10_, Q_X11_⟩
        refine steps_cons ?_ ?_
        · rintro b a w' ⟨g6_, g7_, g8_, m9_, m10_, m11_, ha, Q_FB, Q_G5, Q_G6Z, Q_G6, Q_B6, Q_L6, Q_N56, Q_G7Z, Q_G7, Q_B7, Q_L7, Q_N57, Q_G8Z, Q_G8, Q_B8, Q_L8, Q_N58, Q_N67, Q_N68, Q_N78, Q_X9_, Q_X10_, Q_X11_⟩ hb_ hon hoff
          refine ⟨_, rfl, fun K hK => ?_⟩
          have e5 : a.tmps[5]? = some (.pointer (some ⟨g5, 0, none⟩)) := by rw [ha]; exact (putSel_off rfl).trans rfl
          replace ha := Aside0.mk ha
          have FB := Aside0.mk Q_FB
          have G5 := Aside0.mk Q_G5
          refine value_ (w1 := w') (v := .pointer (some ⟨g5, 0, none⟩)) (by rfl) rfl ?_ ?_
          · go_simp
            (try simp only [i64_w])
            try rfl
          refine hK.out _ _ ⟨g6_, g7_, g8_, m9_, m10_, m11_, (by rw [ha.out]; exact putSel_upk 3 hb_ rfl rfl rfl), Q_FB, Q_G5, Q_G6Z, Q_G6, Q_B6, Q_L6, Q_N56, Q_G7Z, fun _ h1_ => absurd ((hoff 13 (by kernel_rfl)).symm.trans h1_) (by decide), Q_B7, Q_L7, Q_N57, Q_G8Z, fun _ h1_ => absurd ((hoff 14 (by kernel_rfl)).symm.trans h1_) (by decide), Q_B8, Q_L8, Q_N58, Q_N67, Q_N68, Q_N78, Q_X9_, Q_X10_, Q_X11_⟩
        refine steps_cons ?_ ?_
        · rintro b a w' ⟨g6_, g7_, g8_, m9_, m10_, m11_, ha, Q_FB, Q_G5, Q_G6Z, Q_G6, Q_B6, Q_L6, Q_N56, Q_G7Z, Q_G7, Q_B7, Q_L7, Q_N57, Q_G8Z, Q_G8, Q_B8, Q_L8, Q_N58, Q_N67, Q_N68, Q_N78, Q_X9_, Q_X10_, Q_X11_⟩ hb_ hon hoff
          refine ⟨_, rfl, fun K hK => ?_⟩
          have e45 : a.tmps[45]? = some (.pointer (some ⟨g5, 0, none⟩)) := by rw [ha]; exact putSel_on (e := (3, 45, .pointer (some ⟨g5, 0, none⟩))) 3 rfl rfl (hon 3 (by kernel_rfl)) rfl
          replace ha := Aside0.mk ha
          have FB := Aside0.mk Q_FB
          have G5 := Aside0.mk Q_G5
          have c0_ : w'.cell? ⟨g5, 0, none⟩ = some (.slice B1 3 j1) := (blk_cell G5.out 0).trans rfl
          refine value_ (w1 := w') (v := .slice B1 3 j1) (by rfl) rfl ?_ ?_
          · go_simp
            (try simp only [i64_w])
            try rfl
          refine hK.out _ _ ⟨g6_, g7_, g8_, m9_, m10_, m11_, (by rw [ha.out]; exact putSel_upk 4 hb_ rfl rfl rfl), Q_FB, Q_G5, Q_G6Z, Q_G6, Q_B6, Q_L6, Q_N56, Q_G7Z, fun _ h1_ => absurd ((hoff 13 (by kernel_rfl)).symm.trans h1_) (by decide), Q_B7, Q_L7, Q_N57, Q_G8Z, fun _ h1_ => absurd ((hoff 14 (by kernel_rfl)).symm.trans h1_) (by decide), Q_B8, Q_L8, Q_N58, Q_N67, Q_N68, Q_N78, Q_X9_, Q_X10_, Q_X11_⟩
        refine steps_cons ?_ ?_
        · rintro b a w' ⟨g6_, g7_, g8_, m9_, m10_, m11_, ha, Q_FB, Q_G5, Q_G6Z, Q_G6, Q_B6, Q_L6, Q_N56, Q_G7Z, Q_G7, Q_B7, Q_L7, Q_N57, Q_G8Z, Q_G8, Q_B8, Q_L8, Q_N58, Q_N67, Q_N68, Q_N78, Q_X9_, Q_X10_, Q_X11_⟩ hb_ hon hoff
          refine ⟨_, rfl, fun K hK => ?_⟩
          have e46 : a.tmps[46]? = some (.slice B1 3 j1) := by rw [ha]; exact putSel_on (e := (4, 46, .slice B1 3 j1)) 4 rfl rfl (hon 4 (by kernel_rfl)) rfl
          replace ha := Aside0.mk ha
          have FB := Aside0.mk Q_FB
          have G5 := Aside0.mk Q_G5
          refine value_ (w1 := w') (v := .agg #[.slice B1 3 j1, .slice none 0 0]) (by rfl) rfl ?_ ?_
          · go_simp
            (try simp only [i64_w])
            try rfl
          refine hK.out _ _ ⟨g6_, g7_, g8_, m9_, m10_, m11_, (by rw [ha.out]; exact putSel_upk 5 hb_ rfl rfl rfl), Q_FB, Q_G5, Q_G6Z, Q_G6, Q_B6, Q_L6, Q_N56, Q_G7Z, fun _ h1_ => absurd ((hoff 13 (by kernel_rfl)).symm.trans h1_) (by decide), Q_B7, Q_L7, Q_N57, Q_G8Z, fun _ h1_ => absurd ((hoff 14 (by kernel_rfl)).symm.trans h1_) (by decide), Q_B8, Q_L8, Q_N58, Q_N67, Q_N68, Q_N78, Q_X9_, Q_X10_, Q_X11_⟩
        refine steps_cons ?_ ?_
        · rintro b a w' ⟨g6_, g7_, g8_, m9_, m10_, m11_, ha, Q_FB, Q_G5, Q_G6Z, Q_G6, Q_B6, Q_L6, Q_N56, Q_G7Z, Q_G7, Q_B7, Q_L7, Q_N57, Q_G8Z, Q_G8, Q_B8, Q_L8, Q_N58, Q_N67, Q_N68, Q_N78, Q_X9_, Q_X10_, Q_X11_⟩ hb_ hon hoff
          refine ⟨_, rfl, fun K hK => ?_⟩
          have e5 : a.tmps[5]? = some (.pointer (some ⟨g5, 0, none⟩)) := by rw [ha]; exact (putSel_off rfl).trans rfl
          replace ha := Aside0.mk ha
          have FB := Aside0.mk Q_FB
          have G5 := Aside0.mk Q_G5
          refine value_ (w1 := w') (v := .pointer (some ⟨g5, 0, none⟩)) (by rfl) rfl ?_ ?_
          · go_simp
            (try simp only [i64_w])
            try rfl
          refine hK.out _ _ ⟨g6_, g7_, g8_, m9_, m10_, m11_, (by rw [ha.out]; exact putSel_upk 6 hb_ rfl rfl rfl), Q_FB, Q_G5, Q_G6Z, Q_G6, Q_B6, Q_L6, Q_N56, Q_G7Z, Q_G7, Q_B7, Q_L7, Q_N57, Q_G8Z, fun _ h1_ => absurd ((hoff 14 (by kernel_rfl)).symm.trans h1_) (by decide), Q_B8, Q_L8, Q_N58, Q_N67, Q_N68, Q_N78, Q_X9_, Q_X10_, Q_X11_⟩
        refine steps_cons ?_ ?_
        · rintro b a w' ⟨g6_, g7_, g8_, m9_, m10_, m11_, ha, Q_FB, Q_G5, Q_G6Z, Q_G6, Q_B6, Q_L6, Q_N56, Q_G7Z, Q_G7, Q_B7, Q_L7, Q_N57, Q_G8Z, Q_G8, Q_B8, Q_L8, Q_N58, Q_N67, Q_N68, Q_N78, Q_X9_, Q_X10_, Q_X11_⟩ hb_ hon hoff
          refine ⟨_, rfl, fun K hK => ?_⟩
          have e48 : a.tmps[48]? = some (.pointer (some ⟨g5, 0, none⟩)) := by rw [ha]; exact putSel_on (e := (6, 48, .pointer (some ⟨g5, 0, none⟩))) 6 rfl rfl (hon 6 (by kernel_rfl)) rfl
          replace ha := Aside0.mk ha
          have FB := Aside0.mk Q_FB
          have G5 := Aside0.mk Q_G5
          have c0_ : w'.cell? ⟨g5, 0, none⟩ = some (.slice B1 3 j1) := (blk_cell G5.out 0).trans rfl
          refine value_ (w1 := w') (v := .slice B1 3 j1) (by rfl) rfl ?_ ?_
          · go_simp
            (try simp only [i64_w])
            try rfl
          refine hK.out _ _ ⟨g6_, g7_, g8_, m9_, m10_, m11_, (by rw [ha.out]; exact putSel_upk 7 hb_ rfl rfl rfl), Q_FB, Q_G5, Q_G6Z, Q_G6, Q_B6, Q_L6, Q_N56, Q_G7Z, Q_G7, Q_B7, Q_L7, Q_N57, Q_G8Z, fun _ h1_ => absurd ((hoff 14 (by kernel_rfl)).symm.trans h1_) (by decide), Q_B8, Q_L8, Q_N58, Q_N67, Q_N68, Q_N78, Q_X9_, Q_X10_, Q_X11_⟩
        refine steps_cons ?_ ?_
        · rintro b a w' ⟨g6_, g7_, g8_, m9_, m10_, m11_, ha, Q_FB, Q_G5, Q_G6Z, Q_G6, Q_B6, Q_L6, Q_N56, Q_G7Z, Q_G7, Q_B7, Q_L7, Q_N57, Q_G8Z, Q_G8, Q_B8, Q_L8, Q_N58, Q_N67, Q_N68, Q_N78, Q_X9_, Q_X10_, Q_X11_⟩ hb_ hon hoff
          refine ⟨_, rfl, fun K hK => ?_⟩
          have e49 : a.tmps[49]? = some (.slice B1 3 j1) := by rw [ha]; exact putSel_on (e := (7, 49, .slice B1 3 j1)) 7 rfl rfl (hon 7 (by kernel_rfl)) rfl
          replace ha := Aside0.mk ha
          have FB := Aside0.mk Q_FB
          have G5 := Aside0.mk Q_G5
          refine value_ (w1 := w') (v := .agg #[.slice B1 3 j1, .slice none 0 0]) (by rfl) rfl ?_ ?_
          · go_simp
            (try simp only [i64_w])
            try rfl
          refine hK.out _ _ ⟨g6_, g7_, g8_, m9_, m10_, m11_, (by rw [ha.out]; exact putSel_upk 8 hb_ rfl rfl rfl), Q_FB, Q_G5, Q_G6Z, Q_G6, Q_B6, Q_L6, Q_N56, Q_G7Z, Q_G7, Q_B7, Q_L7, Q_N57, Q_G8Z, fun _ h1_ => absurd ((hoff 14 (by kernel_rfl)).symm.trans h1_) (by decide), Q_B8, Q_L8, Q_N58, Q_N67, Q_N68, Q_N78, Q_X9_, Q_X10_, Q_X11_⟩
        refine steps_cons ?_ ?_
        · rintro b a w' ⟨g6_, g7_, g8_, m9_, m10_, m11_, ha, Q_FB, Q_G5, Q_G6Z, Q_G6, Q_B6, Q_L6, Q_N56, Q_G7Z, Q_G7, Q_B7, Q_L7, Q_N57, Q_G8Z, Q_G8, Q_B8, Q_L8, Q_N58, Q_N67, Q_N68, Q_N78, Q_X9_, Q_X10_, Q_X11_⟩ hb_ hon hoff
          refine ⟨_, rfl, fun K hK => ?_⟩
          replace ha := Aside0.mk ha
          have FB := Aside0.mk Q_FB
          have G5 := Aside0.mk Q_G5
          refine value_ (w1 := w'.alloc (.cells #[.slice none 0 0, .slice none 0 0] 27)) (v := .pointer (some ⟨w'.heap.size, 0, none⟩)) (by rfl) rfl ?_ ?_
          · go_simp
            try rfl
          refine hK.out _ _ ⟨w'.heap.size, g7_, g8_, (.pointer (some ⟨w'.heap.size, 0, none⟩)), m10_, m11_, (by rw [ha.out]; exact putSel_upk 9 hb_ rfl rfl rfl), below_alloc FB.out _, blk_alloc G5.out _, fun _ _ => blk_new w' _, fun _ h1_ => absurd ((hoff 12 (by kernel_rfl)).symm.trans h1_) (by decide), fun _ => FB.out.size, fun _ => (by simp), fun _ => Nat.ne_of_lt (blk_lt G5.out), fun h0_ h1_ => blk_alloc (Q_G7Z h0_ h1_) _, fun _ h1_ => absurd ((hoff 13 (by kernel_rfl)).symm.trans h1_) (by decide), Q_B7, fun h0_ => Nat.lt_trans (Q_L7 h0_) (by simp), Q_N57, fun h0_ h1_ => blk_alloc (Q_G8Z h0_ h1_) _, fun _ h1_ => absurd ((hoff 14 (by kernel_rfl)).symm.trans h1_) (by decide), Q_B8, fun h0_ => Nat.lt_trans (Q_L8 h0_) (by simp), Q_N58, fun _ _ => (by rename_i hA_ hB_; exact Nat.ne_of_gt (Q_L7 hB_)), fun _ _ => (by rename_i hA_ hB_; exact Nat.ne_of_gt (Q_L8 hB_)), Q_N78, fun _ => rfl, Q_X10_, Q_X11_⟩
        refine steps_cons ?_ ?_
        · rintro b a w' ⟨g6_, g7_, g8_, m9_, m10_, m11_, ha, Q_FB, Q_G5, Q_G6Z, Q_G6, Q_B6, Q_L6, Q_N56, Q_G7Z, Q_G7, Q_B7, Q_L7, Q_N57, Q_G8Z, Q_G8, Q_B8, Q_L8, Q_N58, Q_N67, Q_N68, Q_N78, Q_X9_, Q_X10_, Q_X11_⟩ hb_ hon hoff
          refine ⟨_, rfl, fun K hK => ?_⟩
          replace ha := Aside0.mk ha
          have FB := Aside0.mk Q_FB
          have G5 := Aside0.mk Q_G5
          refine value_ (w1 := w'.alloc (.cells #[.slice none 0 0, .slice none 0 0] 27)) (v := .pointer (some ⟨w'.heap.size, 0, none⟩)) (by rfl) rfl ?_ ?_
          · go_simp
            try rfl
          refine hK.out _ _ ⟨g6_, w'.heap.size, g8_, m9_, (.pointer (some ⟨w'.heap.size, 0, none⟩)), m11_, (by rw [ha.out]; exact putSel_upk 10 hb_ rfl rfl rfl), below_alloc FB.out _, blk_alloc G5.out _, fun h0_ h1_ => blk_alloc (Q_G6Z h0_ h1_) _, fun _ h1_ => absurd ((hoff 12 (by kernel_rfl)).symm.trans h1_) (by decide), Q_B6, fun h0_ => Nat.lt_trans (Q_L6 h0_) (by simp), Q_N56, fun _ _ => blk_new w' _, fun _ h1_ => absurd ((hoff 13 (by kernel_rfl)).symm.trans h1_) (by decide), fun _ => FB.out.size, fun _ => (by simp), fun _ => Nat.ne_of_lt (blk_lt G5.out), fun h0_ h1_ => blk_alloc (Q_G8Z h0_ h1_) _, fun _ h1_ => absurd ((hoff 14 (by kernel_rfl)).symm.trans h1_) (by decide), Q_B8, fun h0_ => Nat.lt_trans (Q_L8 h0_) (by simp), Q_N58, fun _ _ => (by rename_i hA_ hB_; exact Nat.ne_of_lt (Q_L6 hA_)), Q_N68, fun _ _ => (by rename_i hA_ hB_; exact Nat.ne_of_gt (Q_L8 hB_)), Q_X9_, fun _ => rfl, Q_X11_⟩
        refine steps_cons ?_ ?_
        · rintro b a w' ⟨g6_, g7_, g8_, m9_, m10_, m11_, ha, Q_FB, Q_G5, Q_G6Z, Q_G6, Q_B6, Q_L6, Q_N56, Q_G7Z, Q_G7, Q_B7, Q_L7, Q_N57, Q_G8Z, Q_G8, Q_B8, Q_L8, Q_N58, Q_N67, Q_N68, Q_N78, Q_X9_, Q_X10_, Q_X11_⟩ hb_ hon hoff
          refine ⟨_, rfl, fun K hK => ?_⟩
          replace ha := Aside0.mk ha
          have FB := Aside0.mk Q_FB
          have G5 := Aside0.mk Q_G5
          refine value_ (w1 := w'.alloc (.cells #[.slice none 0 0, .slice none 0 0] 27)) (v := .pointer (some ⟨w'.heap.size, 0, none⟩)) (by rfl) rfl ?_ ?_
          · go_simp
            try rfl
          refine hK.out _ _ ⟨g6_, g7_, w'.heap.size, m9_, m10_, (.pointer (some ⟨w'.heap.size, 0, none⟩)), (by rw [ha.out]; exact putSel_upk 11 hb_ rfl rfl rfl), below_alloc FB.out _, blk_alloc G5.out _, fun h0_ h1_ => blk_alloc (Q_G6Z h0_ h1_) _, fun _ h1_ => absurd ((hoff 12 (by kernel_rfl)).symm.trans h1_) (by decide), Q_B6, fun h0_ => Nat.lt_trans (Q_L6 h0_) (by simp), Q_N56, fun h0_ h1_ => blk_alloc (Q_G7Z h0_ h1_) _, fun _ h1_ => absurd ((hoff 13 (by kernel_rfl)).symm.trans h1_) (by decide), Q_B7, fun h0_ => Nat.lt_trans (Q_L7 h0_) (by simp), Q_N57, fun _ _ => blk_new w' _, fun _ h1_ => absurd ((hoff 14 (by kernel_rfl)).symm.trans h1_) (by decide), fun _ => FB.out.size, fun _ => (by simp), fun _ => Nat.ne_of_lt (blk_lt G5.out), Q_N67, fun _ _ => (by rename_i hA_ hB_; exact Nat.ne_of_lt (Q_L6 hA_)), fun _ _ => (by rename_i hA_ hB_; exact Nat.ne_of_lt (Q_L7 hA_)), Q_X9_, Q_X10_, fun _ => rfl⟩
        refine steps_cons ?_ ?_
        · rintro b a w' ⟨g6_, g7_, g8_, m9_, m10_, m11_, ha, Q_FB, Q_G5, Q_G6Z, Q_G6, Q_B6, Q_L6, Q_N56, Q_G7Z, Q_G7, Q_B7, Q_L7, Q_N57, Q_G8Z, Q_G8, Q_B8, Q_L8, Q_N58, Q_N67, Q_N68, Q_N78, Q_X9_, Q_X10_, Q_X11_⟩ hb_ hon hoff
          refine ⟨_, rfl, fun K hK => ?_⟩
          have e6 : a.tmps[6]? = some (m9_) := by rw [ha]; exact putSel_on (e := (9, 6, m9_)) 9 rfl rfl (hon 9 (by kernel_rfl)) rfl
          rw [Q_X9_ (hon 9 (by kernel_rfl))] at e6
          have e44 : a.tmps[44]? = some (.agg #[.slice B1 3 j1, .slice none 0 0]) := by rw [ha]; exact putSel_on (e := (2, 44, .agg #[.slice B1 3 j1, .slice none 0 0])) 2 rfl rfl (hon 2 (by kernel_rfl)) rfl
          replace ha := Aside0.mk ha
          have FB := Aside0.mk Q_FB
          have G5 := Aside0.mk Q_G5
          have G6Z := Aside0.mk (Q_G6Z (hon 9 (by kernel_rfl)) hb_)
          have B6 := Aside0.mk (Q_B6 (hon 9 (by kernel_rfl)))
          have L6 := Aside0.mk (Q_L6 (hon 9 (by kernel_rfl)))
          have N56 := Aside0.mk (Q_N56 (hon 9 (by kernel_rfl)))
          have G7Z := Aside0.mk (Q_G7Z (hon 10 (by kernel_rfl)) (hoff 13 (by kernel_rfl)))
          have B7 := Aside0.mk (Q_B7 (hon 10 (by kernel_rfl)))
          have L7 := Aside0.mk (Q_L7 (hon 10 (by kernel_rfl)))
          have N57 := Aside0.mk (Q_N57 (hon 10 (by kernel_rfl)))
          have G8Z := Aside0.mk (Q_G8Z (hon 11 (by kernel_rfl)) (hoff 14 (by kernel_rfl)))
          have B8 := Aside0.mk (Q_B8 (hon 11 (by kernel_rfl)))
          have L8 := Aside0.mk (Q_L8 (hon 11 (by kernel_rfl)))
          have N58 := Aside0.mk (Q_N58 (hon 11 (by kernel_rfl)))
          have N67 := Aside0.mk (Q_N67 (hon 9 (by kernel_rfl)) (hon 10 (by kernel_rfl)))
          have N68 := Aside0.mk (Q_N68 (hon 9 (by kernel_rfl)) (hon 11 (by kernel_rfl)))
          have N78 := Aside0.mk (Q_N78 (hon 10 (by kernel_rfl)) (hon 11 (by kernel_rfl)))
          have f0_ := blk_frozen G6Z.out 0
          have f1_ := blk_frozen G6Z.out 1
          have c0_ : w'.cell? ⟨g6_, 0, none⟩ = some (.slice none 0 0) := (blk_cell G6Z.out 0).trans rfl
          have c1_ : w'.cell? ⟨g6_, 1, none⟩ = some (.slice none 0 0) := (blk_cell G6Z.out 1).trans rfl
          refine skip_ (w1 := (w'.setCell ⟨g6_, 0, none⟩ (.slice B1 3 j1)).setCell ⟨g6_, 1, none⟩ (.slice none 0 0)) (by rfl) rfl ?_ ?_
          · go_simp
            try rfl
          refine hK.out _ _ ⟨g6_, g7_, g8_, m9_, m10_, m11_, (by rw [ha.out]; exact putSel_none (v := undef) rfl), below_set (below_set FB.out B6.out) B6.out, blk_far (blk_far G5.out N56.out _) N56.out _, fun _ h1_ => absurd ((up_self b 12).symm.trans h1_) (by decide), fun _ _ => blk_put (blk_put G6Z.out 0 _ rfl) 1 _ rfl, Q_B6, fun _ => (by simpa using L6.out), Q_N56, fun _ _ => blk_far (blk_far G7Z.out N67.out.symm _) N67.out.symm _, fun _ h1_ => absurd ((hoff 13 (by kernel_rfl)).symm.trans h1_) (by decide), Q_B7, fun _ => (by simpa using L7.out), Q_N57, fun _ _ => blk_far (blk_far G8Z.out N68.out.symm _) N68.out.symm _, fun _ h1_ => absurd ((hoff 14 (by kernel_rfl)).symm.trans h1_) (by decide), Q_B8, fun _ => (by simpa using L8.out), Q_N58, Q_N67, Q_N68, Q_N78, Q_X9_, Q_X10_, Q_X11_⟩
        refine steps_cons ?_ ?_
        · rintro b a w' ⟨g6_, g7_, g8_, m9_, m10_, m11_, ha, Q_FB, Q_G5, Q_G6Z, Q_G6, Q_B6, Q_L6, Q_N56, Q_G7Z, Q_G7, Q_B7, Q_L7, Q_N57, Q_G8Z, Q_G8, Q_B8, Q_L8, Q_N58, Q_N67, Q_N68, Q_N78, Q_X9_, Q_X10_, Q_X11_⟩ hb_ hon hoff
          refine ⟨_, rfl, fun K hK => ?_⟩
          have e7 : a.tmps[7]? = some (m10_) := by rw [ha]; exact putSel_on (e := (10, 7, m10_)) 10 rfl rfl (hon 10 (by kernel_rfl)) rfl
          rw [Q_X10_ (hon 10 (by kernel_rfl))] at e7
          have e47 : a.tmps[47]? = some (.agg #[.slice B1 3 j1, .slice none 0 0]) := by rw [ha]; exact putSel_on (e := (5, 47, .agg #[.slice B1 3 j1, .slice none 0 0])) 5 rfl rfl (hon 5 (by kernel_rfl)) rfl
          replace ha := Aside0.mk ha
          have FB := Aside0.mk Q_FB
          have G5 := Aside0.mk Q_G5
          have G6 := Aside0.mk (Q_G6 (hon 9 (by kernel_rfl)) (hon 12 (by kernel_rfl)))
          have B6 := Aside0.mk (Q_B6 (hon 9 (by kernel_rfl)))
          have L6 := Aside0.mk (Q_L6 (hon 9 (by kernel_rfl)))
          have N56 := Aside0.mk (Q_N56 (hon 9 (by kernel_rfl)))
          have G7Z := Aside0.mk (Q_G7Z (hon 10 (by kernel_rfl)) hb_)
          have B7 := Aside0.mk (Q_B7 (hon 10 (by kernel_rfl)))
          have L7 := Aside0.mk (Q_L7 (hon 10 (by kernel_rfl)))
          have N57 := Aside0.mk (Q_N57 (hon 10 (by kernel_rfl)))
          have G8Z := Aside0.mk (Q_G8Z (hon 11 (by kernel_rfl)) (hoff 14 (by kernel_rfl)))
          have B8 := Aside0.mk (Q_B8 (hon 11 (by kernel_rfl)))
          have L8 := Aside0.mk (Q_L8 (hon 11 (by kernel_rfl)))
          have N58 := Aside0.mk (Q_N58 (hon 11 (by kernel_rfl)))
          have N67 := Aside0.mk (Q_N67 (hon 9 (by kernel_rfl)) (hon 10 (by kernel_rfl)))
          have N68 := Aside0.mk (Q_N68 (hon 9 (by kernel_rfl)) (hon 11 (by kernel_rfl)))
          have N78 := Aside0.mk (Q_N78 (hon 10 (by kernel_rfl)) (hon 11 (by kernel_rfl)))
          have f0_ := blk_frozen G7Z.out 0
          have f1_ := blk_frozen G7Z.out 1
          have c0_ : w'.cell? ⟨g7_, 0, none⟩ = some (.slice none 0 0) := (blk_cell G7Z.out 0).trans rfl
          have c1_ : w'.cell? ⟨g7_, 1, none⟩ = some (.slice none 0 0) := (blk_cell G7Z.out 1).trans rfl
          refine skip_ (w1 := (w'.setCell ⟨g7_, 0, none⟩ (.slice B1 3 j1)).setCell ⟨g7_, 1, none⟩ (.slice none 0 0)) (by rfl) rfl ?_ ?_
          · go_simp
            try rfl
          refine hK.out _ _ ⟨g6_, g7_, g8_, m9_, m10_, m11_, (by rw [ha.out]; exact putSel_none (v := undef) rfl), below_set (below_set FB.out B7.out) B7.out, blk_far (blk_far G5.out N57.out _) N57.out _, fun _ h1_ => absurd ((hon 12 (by kernel_rfl)).symm.trans h1_) (by decide), fun _ _ => blk_far (blk_far G6.out N67.out _) N67.out _, Q_B6, fun _ => (by simpa using L6.out), Q_N56, fun _ h1_ => absurd ((up_self b 13).symm.trans h1_) (by decide), fun _ _ => blk_put (blk_put G7Z.out 0 _ rfl) 1 _ rfl, Q_B7, fun _ => (by simpa using L7.out), Q_N57, fun _ _ => blk_far (blk_far G8Z.out N78.out.symm _) N78.out.symm _, fun _ h1_ => absurd ((hoff 14 (by kernel_rfl)).symm.trans h1_) (by decide), Q_B8, fun _ => (by simpa using L8.out), Q_N58, Q_N67, Q_N68, Q_N78, Q_X9_, Q_X10_, Q_X11_⟩
        refine steps_cons ?_ ?_
        · rintro b a w' ⟨g6_, g7_, g8_, m9_, m10_, m11_, ha, Q_FB, Q_G5, Q_G6Z, Q_G6, Q_B6, Q_L6, Q_N56, Q_G7Z, Q_G7, Q_B7, Q_L7, Q_N57, Q_G8Z, Q_G8, Q_B8, Q_L8, Q_N58, Q_N67, Q_N68, Q_N78, Q_X9_, Q_X10_, Q_X11_⟩ hb_ hon hoff
          refine ⟨_, rfl, fun K hK => ?_⟩
          have e8 : a.tmps[8]? = some (m11_) := by rw [ha]; exact putSel_on (e := (11, 8, m11_)) 11 rfl rfl (hon 11 (by kernel_rfl)) rfl
          rw [Q_X11_ (hon 11 (by kernel_rfl))] at e8
          have e50 : a.tmps[50]? = some (.agg #[.slice B1 3 j1, .slice none 0 0]) := by rw [ha]; exact putSel_on (e := (8, 50, .agg #[.slice B1 3 j1, .slice none 0 0])) 8 rfl rfl (hon 8 (by kernel_rfl)) rfl
          replace ha := Aside0.mk ha
          have FB := Aside0.mk Q_FB
          have G5 := Aside0.mk Q_G5
          have G6 := Aside0.mk (Q_G6 (hon 9 (by kernel_rfl)) (hon 12 (by kernel_rfl)))
          have B6 := Aside0.mk (Q_B6 (hon 9 (by kernel_rfl)))
          have L6 := Aside0.mk (Q_L6 (hon 9 (by kernel_rfl)))
          have N56 := Aside0.mk (Q_N56 (hon 9 (by kernel_rfl)))
          have G7 := Aside0.mk (Q_G7 (hon 10 (by kernel_rfl)) (hon 13 (by kernel_rfl)))
          have B7 := Aside0.mk (Q_B7 (hon 10 (by kernel_rfl)))
          have L7 := Aside0.mk (Q_L7 (hon 10 (by kernel_rfl)))
          have N57 := Aside0.mk (Q_N57 (hon 10 (by kernel_rfl)))
          have G8Z := Aside0.mk (Q_G8Z (hon 11 (by kernel_rfl)) hb_)
          have B8 := Aside0.mk (Q_B8 (hon 11 (by kernel_rfl)))
          have L8 := Aside0.mk (Q_L8 (hon 11 (by kernel_rfl)))
          have N58 := Aside0.mk (Q_N58 (hon 11 (by kernel_rfl)))
          have N67 := Aside0.mk (Q_N67 (hon 9 (by kernel_rfl)) (hon 10 (by kernel_rfl)))
          have N68 := Aside0.mk (Q_N68 (hon 9 (by kernel_rfl)) (hon 11 (by kernel_rfl)))
          have N78 := Aside0.mk (Q_N78 (hon 10 (by kernel_rfl)) (hon 11 (by kernel_rfl)))
          have f0_ := blk_frozen G8Z.out 0
          have f1_ := blk_frozen G8Z.out 1
          have c0_ : w'.cell? ⟨g8_, 0, none⟩ = some (.slice none 0 0) := (blk_cell G8Z.out 0).trans rfl
          have c1_ : w'.cell? ⟨g8_, 1, none⟩ = some (.slice none 0 0) := (blk_cell G8Z.out 1).trans rfl
          refine skip_ (w1 := (w'.setCell ⟨g8_, 0, none⟩ (.slice B1 3 j1)).setCell ⟨g8_, 1, none⟩ (.slice none 0 0)) (by rfl) rfl ?_ ?_
          · go_simp
            try rfl
          refine hK.out _ _ ⟨g6_, g7_, g8_, m9_, m10_, m11_, (by rw [ha.out]; exact putSel_none (v := undef) rfl), below_set (below_set FB.out B8.out) B8.out, blk_far (blk_far G5.out N58.out _) N58.out _, fun _ h1_ => absurd ((hon 12 (by kernel_rfl)).symm.trans h1_) (by decide), fun _ _ => blk_far (blk_far G6.out N68.out _) N68.out _, Q_B6, fun _ => (by simpa using L6.out), Q_N56, fun _ h1_ => absurd ((hon 13 (by kernel_rfl)).symm.trans h1_) (by decide), fun _ _ => blk_far (blk_far G7.out N78.out _) N78.out _, Q_B7, fun _ => (by simpa using L7.out), Q_N57, fun _ h1_ => absurd ((up_self b 14).symm.trans h1_) (by decide), fun _ _ => blk_put (blk_put G8Z.out 0 _ rfl) 1 _ rfl, Q_B8, fun _ => (by simpa using L8.out), Q_N58, Q_N67, Q_N68, Q_N78, Q_X9_, Q_X10_, Q_X11_⟩
        exact steps_nil
      · rintro b a w' hall ⟨g6_, g7_, g8_, m9_, m10_, m11_, ha, Q_FB, Q_G5, Q_G6Z, Q_G6, Q_B6, Q_L6, Q_N56, Q_G7Z, Q_G7, Q_B7, Q_L7, Q_N57, Q_G8Z, Q_G8, Q_B8, Q_L8, Q_N58, Q_N67, Q_N68, Q_N78, Q_X9_, Q_X10_, Q_X11_⟩
        clear FB G5
        have hb0_ := hall 0 (by kernel_rfl)
        have hb1_ := hall 1 (by kernel_rfl)
        have hb2_ := hall 2 (by kernel_rfl)
        have hb3_ := hall 3 (by kernel_rfl)
        have hb4_ := hall 4 (by kernel_rfl)
        have hb5_ := hall 5 (by kernel_rfl)
        have hb6_ := hall 6 (by kernel_rfl)
        have hb7_ := hall 7 (by kernel_rfl)
        have hb8_ := hall 8 (by kernel_rfl)
        have hb9_ := hall 9 (by kernel_rfl)
        have hb10_ := hall 10 (by kernel_rfl)
        have hb11_ := hall 11 (by kernel_rfl)
        have hb12_ := hall 12 (by kernel_rfl)
        have hb13_ := hall 13 (by kernel_rfl)
        have hb14_ := hall 14 (by kernel_rfl)
        subst ha
        obtain rfl := Q_X9_ hb9_
        obtain rfl := Q_X10_ hb10_
        obtain rfl := Q_X11_ hb11_
        simp only [putSel, hb0_, hb1_, hb2_, hb3_, hb4_, hb5_, hb6_, hb7_, hb8_, hb9_, hb10_, hb11_, hb12_, hb13_, hb14_, if_true, Act.put, List.setIfInBounds_toArray, List.set_cons_zero, List.set_cons_succ]
        have FB := Aside0.mk Q_FB
        clear Q_FB
        have G5 := Aside0.mk Q_G5
        clear Q_G5
        clear Q_G6Z
        have G6 := Aside0.mk (Q_G6 hb9_ hb12_)
        clear Q_G6
        have B6 := Aside0.mk (Q_B6 hb9_)
        clear Q_B6
        have L6 := Aside0.mk (Q_L6 hb9_)
        clear Q_L6
        have N56 := Aside0.mk (Q_N56 hb9_)
        clear Q_N56
        clear Q_G7Z
        have G7 := Aside0.mk (Q_G7 hb10_ hb13_)
        clear Q_G7
        have B7 := Aside0.mk (Q_B7 hb10_)
        clear Q_B7
        have L7 := Aside0.mk (Q_L7 hb10_)
        clear Q_L7
        have N57 := Aside0.mk (Q_N57 hb10_)
        clear Q_N57
        clear Q_G8Z
        have G8 := Aside0.mk (Q_G8 hb11_ hb14_)
        clear Q_G8
        have B8 := Aside0.mk (Q_B8 hb11_)
        clear Q_B8
        have L8 := Aside0.mk (Q_L8 hb11_)
        clear Q_L8
        have N58 := Aside0.mk (Q_N58 hb11_)
        clear Q_N58
        have N67 := Aside0.mk (Q_N67 hb9_ hb10_)
        clear Q_N67
        have N68 := Aside0.mk (Q_N68 hb9_ hb11_)
        clear Q_N68
        have N78 := Aside0.mk (Q_N78 hb10_ hb11_)
        clear Q_N78
        clear hall hb0_ hb1_ hb2_ hb3_ hb4_ hb5_ hb6_ hb7_ hb8_ hb9_ hb10_ hb11_ hb12_ hb13_ hb14_
        go_wp2_with fail
        go_meet
        exact ⟨g6_, g7_, g8_, rfl, rfl, rfl, B6.out, B7.out, B8.out, N56.out, N57.out, N58.out, N67.out, N68.out, N78.out, G5, G6, G7, G8, FB⟩
  case rest =>
    obtain ⟨g6, g7, g8, rfl, rfl, rfl, hB6, hB7, hB8, h56, h57, h58, h67, h68, h78, G5, G6, G7, G8, FB⟩ := hcut
    rename World => W1
    go_wp2_with fail
    have K9 := Aside0.mk (blk_new W1 (.cells #[.bool false, .bool false, .bool false, .bool false, .bool false, .bool false] 30))
    replace G5 := Aside0.mk (blk_alloc G5.out (.cells #[.bool false, .bool false, .bool false, .bool false, .bool false, .bool false] 30))
    replace G6 := Aside0.mk (blk_alloc G6.out (.cells #[.bool false, .bool false, .bool false, .bool false, .bool false, .bool false] 30))
    replace G7 := Aside0.mk (blk_alloc G7.out (.cells #[.bool false, .bool false, .bool false, .bool false, .bool false, .bool false] 30))
    replace G8 := Aside0.mk (blk_alloc G8.out (.cells #[.bool false, .bool false, .bool false, .bool false, .bool false, .bool false] 30))
    have HBl := Aside0.mk (below_alloc FB.out (.cells #[.bool false, .bool false, .bool false, .bool false, .bool false, .bool false] 30))
    generalize W1.alloc (.cells #[.bool false, .bool false, .bool false, .bool false, .bool false, .bool false] 30) = W2 at K9 G5 G6 G7 G8 HBl ⊢
    have hB9 : w1.heap.size ≤ W1.heap.size := FB.out.size
    clear FB BK5 HB5
    generalize W1.heap.size = g9 at K9 hB9 ⊢
    have HR0 := Aside0.mk (Kd.R_nil k32 32 W2 w1.heap.size (fun _ => True))
    obtain ⟨bt, hb⟩ : ∃ bt : Nat → Bool, bt = bitOf wh := ⟨_, rfl⟩
    have HBIT := Aside0.mk hb
    clear hb
    go_loopw [10, 11] (fun s10 _ wr => ∃ (k : Nat) (A7 A8 : Option Addr) (c7 c8 : Nat), k ≤ chg.length ∧ s10 = .int .i64 k
      ∧ Aside0 (wr.heap[g5]? = some (.cells #[.slice B1 3 j1, .slice B2 chg.length j2] 27 (0, 0))) ∧ Aside0 (wr.heap[g6]? = some (.cells #[.slice B1 3 j1, .slice none 0 0] 27 (0, 0))) ∧ Aside0 (wr.heap[g7]? = some (.cells #[.slice B1 3 j1, .slice A7 (pick bt chg k).length c7] 27 (0, 0))) ∧ Aside0 (wr.heap[g8]? = some (.cells #[.slice B1 3 j1, .slice A8 (pick (fun i => !bt i) chg k).length c8] 27 (0, 0)))
      ∧ Aside0 (wr.heap[g9]? = some (.cells (byA (hasSt (pick bt chg k)) (hasSt (pick (fun i => !bt i) chg k))) 30 (0, 0)))
      ∧ Aside0 (k32.R 32 wr w1.heap.size (fun _ => True) (.slice A7 (pick bt chg k).length c7) (pick bt chg k)) ∧ Aside0 (k32.R 32 wr w1.heap.size (fun _ => True) (.slice A8 (pick (fun i => !bt i) chg k).length c8) (pick (fun i => !bt i) chg k))
      ∧ Aside0 (∀ g, (.slice A7 (pick bt chg k).length c7 : Value).ownBlock = some g → some g ≠ (.slice A8 (pick (fun i => !bt i) chg k).length c8 : Value).ownBlock) ∧ Aside0 (Below w1.heap.size w1 wr)) (fun s10 _ _ => chg.length - (intOf s10).toNat)
    case atStart => exact ⟨0, none, none, 0, 0, Nat.zero_le _, rfl, G5, G6, G7, G8, K9, HR0, HR0, ⟨fun g h => by simp [Value.ownBlock] at h⟩, HBl⟩
    case round =>
      clear G5 G6 G7 G8 K9 HBl HR0
      obtain ⟨k, A7, A8, c7, c8, hk, rfl, G5, G6, G7, G8, G9, R7, R8, NE7, HBo⟩ := hrel
      rename World => wo
      have c50 : wo.cell? ⟨g5, 0, none⟩ = some (.slice B1 3 j1) := (blk_cell G5.out 0).trans rfl
      have c51 : wo.cell? ⟨g5, 1, none⟩ = some (.slice B2 chg.length j2) := (blk_cell G5.out 1).trans rfl
      by_cases hlt : k < chg.length
      · have hltz : (k : Int) < (chg.length : Int) := by omega
        have hk0 : (0 : Int) ≤ (k : Int) := by omega
        obtain ⟨g2, rfl, hg2⟩ := HF2.out (by omega)
        obtain ⟨ad', e', hx0, hx1, hx2⟩ := at_T32 (Kd.C_below K2.out HBo.out) (k : Int) (by omega) (by omega)
        cases e'
        have hrd : rd_T32 chg (k : Int) = chg[k] := getD_at chg k _ hlt
        simp only [hrd, Int.toNat_natCast, add_plain] at hx0 hx1 hx2
        clear hrd
        have hokc := HG.out.ok.ch chg[k] (List.getElem_mem hlt)
        have hp7 := pick_succ bt chg k hlt
        have hp8 := pick_succ (fun i => !bt i) chg k hlt
        have hl7 := pick_length' bt chg k
        have hl8 := pick_length' (fun i => !bt i) chg k
        generalize chg[k] = x at hx0 hx1 hx2 hokc hp7 hp8
        obtain ⟨aT, st, nm⟩ := x
        have hst0 := hokc.st1
        have hst1 := hokc.st2
        simp only at hst0 hst1 hx0 hx1 hx2
        obtain ⟨s, rfl⟩ : ∃ s : Nat, st = (s : Int) := ⟨st.toNat, by omega⟩
        have hs3 : s < 3 := by simp [first3] at hst1; omega
        have HP7 := Aside0.mk hp7
        have HP8 := Aside0.mk hp8
        clear hp7 hp8 hokc
        go_upto_block 1 with fail
        go_cut [11] from 59 to 89 (fun s11 wx => ∃ (A7 A8 : Option Addr) (c7 c8 : Nat), Aside0 (wx.heap[g5]? = some (.cells #[.slice B1 3 j1, .slice (some ⟨g2, 0, none⟩) chg.length j2] 27 (0, 0))) ∧ Aside0 (wx.heap[g6]? = some (.cells #[.slice B1 3 j1, .slice none 0 0] 27 (0, 0))) ∧ Aside0 (wx.heap[g7]? = some (.cells #[.slice B1 3 j1, .slice A7 (pick bt chg (k + 1)).length c7] 27 (0, 0))) ∧ Aside0 (wx.heap[g8]? = some (.cells #[.slice B1 3 j1, .slice A8 (pick (fun i => !bt i) chg (k + 1)).length c8] 27 (0, 0))) ∧ Aside0 (wx.heap[g9]? = some (.cells (byA (hasSt (pick bt chg (k + 1))) (hasSt (pick (fun i => !bt i) chg (k + 1)))) 30 (0, 0))) ∧ Aside0 (k32.R 32 wx w1.heap.size (fun _ => True) (.slice A7 (pick bt chg (k + 1)).length c7) (pick bt chg (k + 1))) ∧ Aside0 (k32.R 32 wx w1.heap.size (fun _ => True) (.slice A8 (pick (fun i => !bt i) chg (k + 1)).length c8) (pick (fun i => !bt i) chg (k + 1))) ∧ Aside0 (∀ gq, (.slice A7 (pick bt chg (k + 1)).length c7 : Value).ownBlock = some gq → some gq ≠ (.slice A8 (pick (fun i => !bt i) chg (k + 1)).length c8 : Value).ownBlock) ∧ Aside0 (Below w1.heap.size w1 wx))
        case first =>
          clear_value *
          as_aux_lemma =>
            have hbk : (bits .and .u8 (wh / 2 ^ k) 1 == 1) = bt k := by rw [HBIT.out]; rfl
            go_upto_if 69 with (fail)
            have G11 := Aside0.mk (blk_new wo (.cells #[.int .i64 aT, .int .i64 (s : Int), .string nm] 32))
            replace G5 := Aside0.mk (blk_alloc G5.out (.cells #[.int .i64 aT, .int .i64 (s : Int), .string nm] 32))
            replace G6 := Aside0.mk (blk_alloc G6.out (.cells #[.int .i64 aT, .int .i64 (s : Int), .string nm] 32))
            replace G7 := Aside0.mk (blk_alloc G7.out (.cells #[.int .i64 aT, .int .i64 (s : Int), .string nm] 32))
            replace G8 := Aside0.mk (blk_alloc G8.out (.cells #[.int .i64 aT, .int .i64 (s : Int), .string nm] 32))
            replace G9 := Aside0.mk (blk_alloc G9.out (.cells #[.int .i64 aT, .int .i64 (s : Int), .string nm] 32))
            have R7o := R7
            have R8o := R8
            replace R7 := Aside0.mk (Kd.R_alloc R7.out (.cells #[.int .i64 aT, .int .i64 (s : Int), .string nm] 32))
            replace R8 := Aside0.mk (Kd.R_alloc R8.out (.cells #[.int .i64 aT, .int .i64 (s : Int), .string nm] 32))
            have HBi := Aside0.mk (below_alloc HBo.out (.cells #[.int .i64 aT, .int .i64 (s : Int), .string nm] 32))
            have H7 : Aside0 (some wo.heap.size ≠ (.slice A7 (pick bt chg k).length c7 : Value).ownBlock) := ⟨fun e => by have := Kd.R_lt R7o.out _ e.symm; omega⟩
            have H8 : Aside0 (some wo.heap.size ≠ (.slice A8 (pick (fun i => !bt i) chg k).length c8 : Value).ownBlock) := ⟨fun e => by have := Kd.R_lt R8o.out _ e.symm; omega⟩
            clear R7o R8o
            have NE8 : Aside0 (∀ g, (.slice A8 (pick (fun i => !bt i) chg k).length c8 : Value).ownBlock = some g → some g ≠ (.slice A7 (pick bt chg k).length c7 : Value).ownBlock) := ⟨fun g h h2 => NE7.out g h2.symm h.symm⟩
            generalize wo.alloc (.cells #[.int .i64 aT, .int .i64 (s : Int), .string nm] 32) = wi at G11 G5 G6 G7 G8 G9 R7 R8 HBi ⊢
            generalize wo.heap.size = g11 at G11 H7 H8 ⊢
            clear hx0 hx1 hx2 c50 c51 HBo
            have e7 := HP7.out
            have e8 := HP8.out
            clear HP7 HP8
            generalize pick bt chg k = P7 at G7 G9 R7 NE7 NE8 hl7 e7 H7
            generalize pick (fun i => !bt i) chg k = P8 at G8 G9 R8 NE7 NE8 hl8 e8 H8
            have h87 := h78.symm
            clear hbk HBIT
            generalize bt k = bk at e7 e8 ⊢
            have hs4 : (s : Int) < 3 := by omega
            have hs0 : (0 : Int) ≤ (s : Int) := by omega
            clear hst0 hst1
            cases bk with
            | true =>
              replace e7 : pick bt chg (k + 1) = P7 ++ [⟨aT, (s : Int), nm⟩] := e7
              replace e8 : pick (fun i => !bt i) chg (k + 1) = P8 := e8
              have hfn : (hasSt (P7 ++ [⟨aT, (s : Int), nm⟩])) = (fun i => hasSt P7 i || decide (s = i)) := by funext i; rw [hasSt_app]; simp
              have hln : (P7 ++ [(⟨aT, (s : Int), nm⟩ : S32)]).length = P7.length + 1 := by simp
              go_upto_region 9 with fail
              refine start_ (n := 12) (S := fun w' => True) (ds := []) #[false, false, false, false, false, false, false, false, false, false, false, false] (by kernel_rfl) rfl rfl trivial (fun hHeld => ?_)
              refine with_tabW clerks.tab9 clerks.bits9 (fun HT_ HW_ => ?_)
              have FB := Aside0.mk (below_drew HBi.out)
              replace G5 := Aside0.mk (blk_drew G5.out)
              replace G6 := Aside0.mk (blk_drew G6.out)
              replace G7 := Aside0.mk (blk_drew G7.out)
              replace G8 := Aside0.mk (blk_drew G8.out)
              replace G9 := Aside0.mk (blk_drew G9.out)
              replace G11 := Aside0.mk (blk_drew G11.out)
              replace R7 := Aside0.mk (Kd.R_drew R7.out)
              replace R8 := Aside0.mk (Kd.R_drew R8.out)
              generalize wi.drew = w8 at FB G5 G6 G7 G8 G9 G11 R7 R8 ⊢
              refine inv_at [0, 1, 2, 3, 4, 5, 6, 7, 8, 9, 10, 11] (fun a0_ b a w' => ∃ (gb_ : Nat) (A76_ : Option Addr) (c76_ : Nat) (m5_ : Value) (m6_ : Value), a = putSel a0_ b [(0, 70, .pointer (some ⟨g11, 1, none⟩)), (1, 71, .int .i64 (s : Int)), (2, 72, .pointer (some ⟨g7, 1, none⟩)), (3, 73, .slice A7 P7.length c7), (4, 74, .agg #[.int .i64 aT, .int .i64 (s : Int), .string nm]), (5, 75, m5_), (6, 76, m6_), (7, 77, .pointer (some ⟨g7, 1, none⟩)), (9, 78, .pointer (some ⟨g9, s * 2, none⟩)), (10, 79, .pointer (some ⟨g9, s * 2, none⟩))] ∧ (Below w1.heap.size w1 w') ∧ (w'.heap[g5]? = some (.cells #[.slice B1 3 j1, .slice (some ⟨g2, 0, none⟩) chg.length j2] 27 (0, 0))) ∧ (w'.heap[g6]? = some (.cells #[.slice B1 3 j1, .slice none 0 0] 27 (0, 0))) ∧ (w'.heap[g8]? = some (.cells #[.slice B1 3 j1, .slice A8 P8.length c8] 27 (0, 0))) ∧ (w'.heap[g11]? = some (.cells #[.int .i64 aT, .int .i64 (s : Int), .string nm] 32 (0, 0))) ∧ (b 8 = false → w'.heap[g7]? = some (.cells #[.slice B1 3 j1, .slice A7 P7.length c7] 27 (0, 0))) ∧ (b 6 = true → b 8 = true → w'.heap[g7]? = some (.cells #[.slice B1 3 j1, .slice A76_ (P7.length + 1) c76_] 27 (0, 0))) ∧ (b 11 = false → w'.heap[g9]? = some (.cells (byA (hasSt P7) (hasSt P8)) 30 (0, 0))) ∧ (b 11 = true → w'.heap[g9]? = some (.cells (byA (fun i => hasSt P7 i || decide (s = i)) (hasSt P8)) 30 (0, 0))) ∧ (b 5 = true → b 6 = false → w'.heap[gb_]? = some (.cells #[.int .i64 aT, .int .i64 (s : Int), .string nm] 32 (0, 0))) ∧ (b 6 = false → k32.R 32 w' w1.heap.size (fun _ => True) (.slice A7 P7.length c7) P7) ∧ (b 6 = true → k32.R 32 w' w1.heap.size (fun _ => True) (.slice A76_ (P7.length + 1) c76_) (P7 ++ [⟨aT, (s : Int), nm⟩])) ∧ (k32.R 32 w' w1.heap.size (fun _ => True) (.slice A8 P8.length c8) P8) ∧ (b 6 = true → (∀ k, (.slice A76_ (P7.length + 1) c76_ : Value).ownBlock = some k → some k ≠ (.slice A8 P8.length c8 : Value).ownBlock)) ∧ (b 5 = true → (m5_ : Value) = .slice (some ⟨gb_, 0, none⟩) 1 1) ∧ (b 6 = true → (m6_ : Value) = .slice A76_ (P7.length + 1) c76_)) HT_.out HW_.out (by kernel_rfl) (by kernel_rfl) ?_ ?_ ?_
              · exact ⟨0, none, 0, .bool false, .bool false, by simp only [putSel, Bool.false_eq_true, if_false], FB.out, G5.out, G6.out, G8.out, G11.out, fun _ => G7.out, fun h_ => absurd h_ (by decide), fun _ => G9.out, fun h_ => absurd h_ (by decide), fun h_ => absurd h_ (by decide), fun _ => R7.out, fun h_ => absurd h_ (by decide), R8.out, fun h_ => absurd h_ (by decide), fun h_ => absurd h_ (by decide), fun h_ => absurd h_ (by decide)⟩
              · skip
                clear FB G11 G5 G6 G7 G8 G9 R7 R8
                refine steps_cons ?_ ?_
                · rintro b a w' ⟨gb_, A76_, c76_, m5_, m6_, ha, Q_FB, Q_G5, Q_G6, Q_G8, Q_G11, Q_G7, Q_G7N, Q_G9, Q_G9N, Q_GB, Q_R7, Q_R7N, Q_R8, Q_NN, Q_X5_, Q_X6_⟩ hb_ hon hoff
                  refine ⟨_, rfl, fun K hK => ?_⟩
                  have e11 : a.tmps[11]? = some (.pointer (some ⟨g11, 0, none⟩)) := by rw [ha]; exact (putSel_off rfl).trans rfl
                  replace ha := Aside0.mk ha
                  have FB := Aside0.mk Q_FB
                  have G5 := Aside0.mk Q_G5
                  have G6 := Aside0.mk Q_G6
                  have G8 := Aside0.mk Q_G8
                  have G11 := Aside0.mk Q_G11
                  have G9 := Aside0.mk (Q_G9 (hoff 11 (by kernel_rfl)))
                  have R8 := Aside0.mk Q_R8
                  refine value_ (w1 := w') (v := .pointer (some ⟨g11, 1, none⟩)) (by rfl) rfl ?_ ?_
                  · go_simp
                    (try simp only [i64_w])
                    try rfl
                  refine hK.out _ _ ⟨gb_, A76_, c76_, m5_, m6_, (by rw [ha.out]; exact putSel_upk 0 hb_ rfl rfl rfl), Q_FB, Q_G5, Q_G6, Q_G8, Q_G11, Q_G7, Q_G7N, Q_G9, fun h0_ => absurd ((hoff 11 (by kernel_rfl)).symm.trans h0_) (by decide), Q_GB, Q_R7, Q_R7N, Q_R8, Q_NN, Q_X5_, Q_X6_⟩
                refine steps_cons ?_ ?_
                · rintro b a w' ⟨gb_, A76_, c76_, m5_, m6_, ha, Q_FB, Q_G5, Q_G6, Q_G8, Q_G11, Q_G7, Q_G7N, Q_G9, Q_G9N, Q_GB, Q_R7, Q_R7N, Q_R8, Q_NN, Q_X5_, Q_X6_⟩ hb_ hon hoff
                  refine ⟨_, rfl, fun K hK => ?_⟩
                  have e70 : a.tmps[70]? = some (.pointer (some ⟨g11, 1, none⟩)) := by rw [ha]; exact putSel_on (e := (0, 70, .pointer (some ⟨g11, 1, none⟩))) 0 rfl rfl (hon 0 (by kernel_rfl)) rfl
                  replace ha := Aside0.mk ha
                  have FB := Aside0.mk Q_FB
                  have G5 := Aside0.mk Q_G5
                  have G6 := Aside0.mk Q_G6
                  have G8 := Aside0.mk Q_G8
                  have G11 := Aside0.mk Q_G11
                  have G9 := Aside0.mk (Q_G9 (hoff 11 (by kernel_rfl)))
                  have R8 := Aside0.mk Q_R8
                  have c0_ : w'.cell? ⟨g11, 0, none⟩ = some (.int .i64 aT) := (blk_cell G11.out 0).trans rfl
                  have c1_ : w'.cell? ⟨g11, 1, none⟩ = some (.int .i64 (s : Int)) := (blk_cell G11.out 1).trans rfl
                  have c2_ : w'.cell? ⟨g11, 2, none⟩ = some (.string nm) := (blk_cell G11.out 2).trans rfl
                  refine value_ (w1 := w') (v := .int .i64 (s : Int)) (by rfl) rfl ?_ ?_
                  · go_simp
                    (try simp only [i64_w])
                    try rfl
                  refine hK.out _ _ ⟨gb_, A76_, c76_, m5_, m6_, (by rw [ha.out]; exact putSel_upk 1 hb_ rfl rfl rfl), Q_FB, Q_G5, Q_G6, Q_G8, Q_G11, Q_G7, Q_G7N, Q_G9, fun h0_ => absurd ((hoff 11 (by kernel_rfl)).symm.trans h0_) (by decide), Q_GB, Q_R7, Q_R7N, Q_R8, Q_NN, Q_X5_, Q_X6_⟩
                refine steps_cons ?_ ?_
                · rintro b a w' ⟨gb_, A76_, c76_, m5_, m6_, ha, Q_FB, Q_G5, Q_G6, Q_G8, Q_G11, Q_G7, Q_G7N, Q_G9, Q_G9N, Q_GB, Q_R7, Q_R7N, Q_R8, Q_NN, Q_X5_, Q_X6_⟩ hb_ hon hoff
                  refine ⟨_, rfl, fun K hK => ?_⟩
                  have e7 : a.tmps[7]? = some (.pointer (some ⟨g7, 0, none⟩)) := by rw [ha]; exact (putSel_off rfl).trans rfl
                  replace ha := Aside0.mk ha
                  have FB := Aside0.mk Q_FB
                  have G5 := Aside0.mk Q_G5
                  have G6 := Aside0.mk Q_G6
                  have G8 := Aside0.mk Q_G8
                  have G11 := Aside0.mk Q_G11
                  have G7 := Aside0.mk (Q_G7 (hoff 8 (by kernel_rfl)))
                  have G9 := Aside0.mk (Q_G9 (hoff 11 (by kernel_rfl)))
                  have R7 := Aside0.mk (Q_R7 (hoff 6 (by kernel_rfl)))
                  have R8 := Aside0.mk Q_R8
                  refine value_ (w1 := w') (v := .pointer (some ⟨g7, 1, none⟩)) (by rfl) rfl ?_ ?_
                  · go_simp
                    (try simp only [i64_w])
                    try rfl
                  refine hK.out _ _ ⟨gb_, A76_, c76_, m5_, m6_, (by rw [ha.out]; exact putSel_upk 2 hb_ rfl rfl rfl), Q_FB, Q_G5, Q_G6, Q_G8, Q_G11, Q_G7, fun h0_ _ => absurd ((hoff 6 (by kernel_rfl)).symm.trans h0_) (by decide), Q_G9, fun h0_ => absurd ((hoff 11 (by kernel_rfl)).symm.trans h0_) (by decide), Q_GB, Q_R7, fun h0_ => absurd ((hoff 6 (by kernel_rfl)).symm.trans h0_) (by decide), Q_R8, fun h0_ => absurd ((hoff 6 (by kernel_rfl)).symm.trans h0_) (by decide), Q_X5_, fun h0_ => absurd ((hoff 6 (by kernel_rfl)).symm.trans h0_) (by decide)⟩
                refine steps_cons ?_ ?_
                · rintro b a w' ⟨gb_, A76_, c76_, m5_, m6_, ha, Q_FB, Q_G5, Q_G6, Q_G8, Q_G11, Q_G7, Q_G7N, Q_G9, Q_G9N, Q_GB, Q_R7, Q_R7N, Q_R8, Q_NN, Q_X5_, Q_X6_⟩ hb_ hon hoff
                  refine ⟨_, rfl, fun K hK => ?_⟩
                  have e72 : a.tmps[72]? = some (.pointer (some ⟨g7, 1, none⟩)) := by rw [ha]; exact putSel_on (e := (2, 72, .pointer (some ⟨g7, 1, none⟩))) 2 rfl rfl (hon 2 (by kernel_rfl)) rfl
                  replace ha := Aside0.mk ha
                  have FB := Aside0.mk Q_FB
                  have G5 := Aside0.mk Q_G5
                  have G6 := Aside0.mk Q_G6
                  have G8 := Aside0.mk Q_G8
                  have G11 := Aside0.mk Q_G11
                  have G7 := Aside0.mk (Q_G7 (hoff 8 (by kernel_rfl)))
                  have G9 := Aside0.mk (Q_G9 (hoff 11 (by kernel_rfl)))
                  have R7 := Aside0.mk (Q_R7 (hoff 6 (by kernel_rfl)))
                  have R8 := Aside0.mk Q_R8
                  have c1_ : w'.cell? ⟨g7, 1, none⟩ = some (.slice A7 P7.length c7) := (blk_cell G7.out 1).trans rfl
                  refine value_ (w1 := w') (v := .slice A7 P7.length c7) (by rfl) rfl ?_ ?_
                  · go_simp
                    (try simp only [i64_w])
                    try rfl
                  refine hK.out _ _ ⟨gb_, A76_, c76_, m5_, m6_, (by rw [ha.out]; exact putSel_upk 3 hb_ rfl rfl rfl), Q_FB, Q_G5, Q_G6, Q_G8, Q_G11, Q_G7, fun h0_ _ => absurd ((hoff 6 (by kernel_rfl)).symm.trans h0_) (by decide), Q_G9, fun h0_ => absurd ((hoff 11 (by kernel_rfl)).symm.trans h0_) (by decide), Q_GB, Q_R7, fun h0_ => absurd ((hoff 6 (by kernel_rfl)).symm.trans h0_) (by decide), Q_R8, fun h0_ => absurd ((hoff 6 (by kernel_rfl)).symm.trans h0_) (by decide), Q_X5_, fun h0_ => absurd ((hoff 6 (by kernel_rfl)).symm.trans h0_) (by decide)⟩
                refine steps_cons ?_ ?_
                · rintro b a w' ⟨gb_, A76_, c76_, m5_, m6_, ha, Q_FB, Q_G5, Q_G6, Q_G8, Q_G11, Q_G7, Q_G7N, Q_G9, Q_G9N, Q_GB, Q_R7, Q_R7N, Q_R8, Q_NN, Q_X5_, Q_X6_⟩ hb_ hon hoff
                  refine ⟨_, rfl, fun K hK => ?_⟩
                  have e11 : a.tmps[11]? = some (.pointer (some ⟨g11, 0, none⟩)) := by rw [ha]; exact (putSel_off rfl).trans rfl
                  replace ha := Aside0.mk ha
                  have FB := Aside0.mk Q_FB
                  have G5 := Aside0.mk Q_G5
                  have G6 := Aside0.mk Q_G6
                  have G8 := Aside0.mk Q_G8
                  have G11 := Aside0.mk Q_G11
                  have G7 := Aside0.mk (Q_G7 (hoff 8 (by kernel_rfl)))
                  have G9 := Aside0.mk (Q_G9 (hoff 11 (by kernel_rfl)))
                  have R7 := Aside0.mk (Q_R7 (hoff 6 (by kernel_rfl)))
                  have R8 := Aside0.mk Q_R8
                  have c0_ : w'.cell? ⟨g11, 0, none⟩ = some (.int .i64 aT) := (blk_cell G11.out 0).trans rfl
                  have c1_ : w'.cell? ⟨g11, 1, none⟩ = some (.int .i64 (s : Int)) := (blk_cell G11.out 1).trans rfl
                  have c2_ : w'.cell? ⟨g11, 2, none⟩ = some (.string nm) := (blk_cell G11.out 2).trans rfl
                  refine value_ (w1 := w') (v := .agg #[.int .i64 aT, .int .i64 (s : Int), .string nm]) (by rfl) rfl ?_ ?_
                  · go_simp
                    (try simp only [i64_w])
                    try rfl
                  refine hK.out _ _ ⟨gb_, A76_, c76_, m5_, m6_, (by rw [ha.out]; exact putSel_upk 4 hb_ rfl rfl rfl), Q_FB, Q_G5, Q_G6, Q_G8, Q_G11, Q_G7, fun h0_ _ => absurd ((hoff 6 (by kernel_rfl)).symm.trans h0_) (by decide), Q_G9, fun h0_ => absurd ((hoff 11 (by kernel_rfl)).symm.trans h0_) (by decide), fun h0_ _ => absurd ((hoff 5 (by kernel_rfl)).symm.trans h0_) (by decide), Q_R7, fun h0_ => absurd ((hoff 6 (by kernel_rfl)).symm.trans h0_) (by decide), Q_R8, fun h0_ => absurd ((hoff 6 (by kernel_rfl)).symm.trans h0_) (by decide), fun h0_ => absurd ((hoff 5 (by kernel_rfl)).symm.trans h0_) (by decide), fun h0_ => absurd ((hoff 6 (by kernel_rfl)).symm.trans h0_) (by decide)⟩
                refine steps_cons ?_ ?_
                · rintro b a w' ⟨gb_, A76_, c76_, m5_, m6_, ha, Q_FB, Q_G5, Q_G6, Q_G8, Q_G11, Q_G7, Q_G7N, Q_G9, Q_G9N, Q_GB, Q_R7, Q_R7N, Q_R8, Q_NN, Q_X5_, Q_X6_⟩ hb_ hon hoff
                  refine ⟨_, rfl, fun K hK => ?_⟩
                  have e74 : a.tmps[74]? = some (.agg #[.int .i64 aT, .int .i64 (s : Int), .string nm]) := by rw [ha]; exact putSel_on (e := (4, 74, .agg #[.int .i64 aT, .int .i64 (s : Int), .string nm])) 4 rfl rfl (hon 4 (by kernel_rfl)) rfl
                  replace ha := Aside0.mk ha
                  have FB := Aside0.mk Q_FB
                  have G5 := Aside0.mk Q_G5
                  have G6 := Aside0.mk Q_G6
                  have G8 := Aside0.mk Q_G8
                  have G11 := Aside0.mk Q_G11
                  have G7 := Aside0.mk (Q_G7 (hoff 8 (by kernel_rfl)))
                  have G9 := Aside0.mk (Q_G9 (hoff 11 (by kernel_rfl)))
                  have R7 := Aside0.mk (Q_R7 (hoff 6 (by kernel_rfl)))
                  have R8 := Aside0.mk Q_R8
                  refine value_ (w1 := w'.alloc (.cells #[.int .i64 aT, .int .i64 (s : Int), .string nm] 32)) (v := .slice (some ⟨w'.heap.size, 0, none⟩) 1 1) (by rfl) rfl ?_ ?_
                  · go_simp
                    try rfl
                  refine hK.out _ _ ⟨w'.heap.size, A76_, c76_, (.slice (some ⟨w'.heap.size, 0, none⟩) 1 1), m6_, (by rw [ha.out]; exact putSel_upk 5 hb_ rfl rfl rfl), below_alloc FB.out _, blk_alloc G5.out _, blk_alloc G6.out _, blk_alloc G8.out _, blk_alloc G11.out _, fun _ => blk_alloc G7.out _, fun h0_ _ => absurd ((hoff 6 (by kernel_rfl)).symm.trans h0_) (by decide), fun _ => blk_alloc G9.out _, fun h0_ => absurd ((hoff 11 (by kernel_rfl)).symm.trans h0_) (by decide), fun _ _ => blk_new w' _, fun _ => Kd.R_alloc R7.out _, fun h0_ => absurd ((hoff 6 (by kernel_rfl)).symm.trans h0_) (by decide), Kd.R_alloc R8.out _, fun h0_ => absurd ((hoff 6 (by kernel_rfl)).symm.trans h0_) (by decide), fun _ => rfl, fun h0_ => absurd ((hoff 6 (by kernel_rfl)).symm.trans h0_) (by decide)⟩
                refine steps_cons ?_ ?_
                · rintro b a w' ⟨gb_, A76_, c76_, m5_, m6_, ha, Q_FB, Q_G5, Q_G6, Q_G8, Q_G11, Q_G7, Q_G7N, Q_G9, Q_G9N, Q_GB, Q_R7, Q_R7N, Q_R8, Q_NN, Q_X5_, Q_X6_⟩ hb_ hon hoff
                  refine ⟨_, rfl, fun K hK => ?_⟩
                  have e73 : a.tmps[73]? = some (.slice A7 P7.length c7) := by rw [ha]; exact putSel_on (e := (3, 73, .slice A7 P7.length c7)) 3 rfl rfl (hon 3 (by kernel_rfl)) rfl
                  have e75 : a.tmps[75]? = some (m5_) := by rw [ha]; exact putSel_on (e := (5, 75, m5_)) 5 rfl rfl (hon 5 (by kernel_rfl)) rfl
                  rw [Q_X5_ (hon 5 (by kernel_rfl))] at e75
                  replace ha := Aside0.mk ha
                  have FB := Aside0.mk Q_FB
                  have G5 := Aside0.mk Q_G5
                  have G6 := Aside0.mk Q_G6
                  have G8 := Aside0.mk Q_G8
                  have G11 := Aside0.mk Q_G11
                  have G7 := Aside0.mk (Q_G7 (hoff 8 (by kernel_rfl)))
                  have G9 := Aside0.mk (Q_G9 (hoff 11 (by kernel_rfl)))
                  have GB := Aside0.mk (Q_GB (hon 5 (by kernel_rfl)) hb_)
                  have R7 := Aside0.mk (Q_R7 hb_)
                  have R8 := Aside0.mk Q_R8
                  refine Kd.R_append_rows_step k32 (w0 := w1) w1.heap.size (by rfl) (.tmp 73) (.tmp 75) 25 32 (.agg #[.int .i64 0, .int .i64 0, .string ⟨#[]⟩]) 32 rfl Try.underlying25 infoStreet rfl (by decide) (by decide) (.slice A7 P7.length c7) P7 [⟨aT, (s : Int), nm⟩] (some ⟨gb_, 0, none⟩) 1 1 (fun _ => True) (fun _ => False) (eval_of e73) (eval_of e75) R7.out (chg_block GB.out) (fun x cs h => by rw [k32_open h]; exact k32_mkM _ _ _ _) (fun _ h => h.elim) (fun _ _ => trivial) FB.out FB.out.size (by omega) ?_
                  intro v9_ w9_ ho_ hb_1 hg_ hat_
                  have hn_ := own_apart NE7.out R8.out hat_
                  obtain ⟨An_, cn_, rfl⟩ := Kd.R_slice ho_
                  rw [hln] at ho_ hn_ ⊢
                  refine hK.out _ _ ⟨gb_, An_, cn_, m5_, (.slice An_ (P7.length + 1) cn_), (by rw [ha.out]; exact putSel_upk 6 hb_ rfl rfl rfl), hb_1, blk_grown G5.out hg_ (Kd.R_ne R7.out G5.out (by decide)), blk_grown G6.out hg_ (Kd.R_ne R7.out G6.out (by decide)), blk_grown G8.out hg_ (Kd.R_ne R7.out G8.out (by decide)), blk_grown G11.out hg_ H7.out, fun _ => blk_grown G7.out hg_ (Kd.R_ne R7.out G7.out (by decide)), fun _ h1_ => absurd ((hoff 8 (by kernel_rfl)).symm.trans h1_) (by decide), fun _ => blk_grown G9.out hg_ (Kd.R_ne R7.out G9.out (by decide)), fun h0_ => absurd ((hoff 11 (by kernel_rfl)).symm.trans h0_) (by decide), fun _ h1_ => absurd ((up_self b 6).symm.trans h1_) (by decide), fun h0_ => absurd ((up_self b 6).symm.trans h0_) (by decide), fun _ => ho_, Kd.R_grown2 R8.out rfl hg_ NE7.out, fun _ => hn_, Q_X5_, fun _ => rfl⟩
                refine steps_cons ?_ ?_
                · rintro b a w' ⟨gb_, A76_, c76_, m5_, m6_, ha, Q_FB, Q_G5, Q_G6, Q_G8, Q_G11, Q_G7, Q_G7N, Q_G9, Q_G9N, Q_GB, Q_R7, Q_R7N, Q_R8, Q_NN, Q_X5_, Q_X6_⟩ hb_ hon hoff
                  refine ⟨_, rfl, fun K hK => ?_⟩
                  have e7 : a.tmps[7]? = some (.pointer (some ⟨g7, 0, none⟩)) := by rw [ha]; exact (putSel_off rfl).trans rfl
                  replace ha := Aside0.mk ha
                  have FB := Aside0.mk Q_FB
                  have G5 := Aside0.mk Q_G5
                  have G6 := Aside0.mk Q_G6
                  have G8 := Aside0.mk Q_G8
                  have G11 := Aside0.mk Q_G11
                  have G7 := Aside0.mk (Q_G7 (hoff 8 (by kernel_rfl)))
                  have G9 := Aside0.mk (Q_G9 (hoff 11 (by kernel_rfl)))
                  have R7N := Aside0.mk (Q_R7N (hon 6 (by kernel_rfl)))
                  have R8 := Aside0.mk Q_R8
                  have NN := Aside0.mk (Q_NN (hon 6 (by kernel_rfl)))
                  refine value_ (w1 := w') (v := .pointer (some ⟨g7, 1, none⟩)) (by rfl) rfl ?_ ?_
                  · go_simp
                    (try simp only [i64_w])
                    try rfl
                  refine hK.out _ _ ⟨gb_, A76_, c76_, m5_, m6_, (by rw [ha.out]; exact putSel_upk 7 hb_ rfl rfl rfl), Q_FB, Q_G5, Q_G6, Q_G8, Q_G11, Q_G7, fun _ h1_ => absurd ((hoff 8 (by kernel_rfl)).symm.trans h1_) (by decide), Q_G9, fun h0_ => absurd ((hoff 11 (by kernel_rfl)).symm.trans h0_) (by decide), fun _ h1_ => absurd ((hon 6 (by kernel_rfl)).symm.trans h1_) (by decide), fun h0_ => absurd ((hon 6 (by kernel_rfl)).symm.trans h0_) (by decide), Q_R7N, Q_R8, Q_NN, Q_X5_, Q_X6_⟩
                refine steps_cons ?_ ?_
                · rintro b a w' ⟨gb_, A76_, c76_, m5_, m6_, ha, Q_FB, Q_G5, Q_G6, Q_G8, Q_G11, Q_G7, Q_G7N, Q_G9, Q_G9N, Q_GB, Q_R7, Q_R7N, Q_R8, Q_NN, Q_X5_, Q_X6_⟩ hb_ hon hoff
                  refine ⟨_, rfl, fun K hK => ?_⟩
                  have e77 : a.tmps[77]? = some (.pointer (some ⟨g7, 1, none⟩)) := by rw [ha]; exact putSel_on (e := (7, 77, .pointer (some ⟨g7, 1, none⟩))) 7 rfl rfl (hon 7 (by kernel_rfl)) rfl
                  have e76 : a.tmps[76]? = some (m6_) := by rw [ha]; exact putSel_on (e := (6, 76, m6_)) 6 rfl rfl (hon 6 (by kernel_rfl)) rfl
                  rw [Q_X6_ (hon 6 (by kernel_rfl))] at e76
                  replace ha := Aside0.mk ha
                  have FB := Aside0.mk Q_FB
                  have G5 := Aside0.mk Q_G5
                  have G6 := Aside0.mk Q_G6
                  have G8 := Aside0.mk Q_G8
                  have G11 := Aside0.mk Q_G11
                  have G7 := Aside0.mk (Q_G7 hb_)
                  have G9 := Aside0.mk (Q_G9 (hoff 11 (by kernel_rfl)))
                  have R7N := Aside0.mk (Q_R7N (hon 6 (by kernel_rfl)))
                  have R8 := Aside0.mk Q_R8
                  have NN := Aside0.mk (Q_NN (hon 6 (by kernel_rfl)))
                  have f1_ := blk_frozen G7.out 1
                  have c1_ : w'.cell? ⟨g7, 1, none⟩ = some (.slice A7 P7.length c7) := (blk_cell G7.out 1).trans rfl
                  refine skip_ (w1 := w'.setCell ⟨g7, 1, none⟩ (.slice A76_ (P7.length + 1) c76_)) (by rfl) rfl ?_ ?_
                  · go_simp
                    try rfl
                  refine hK.out _ _ ⟨gb_, A76_, c76_, m5_, m6_, (by rw [ha.out]; exact putSel_none (v := undef) rfl), below_set FB.out hB7, blk_far G5.out h57 _, blk_far G6.out h67 _, blk_far G8.out h87 _, blk_far G11.out (blk_ne G11.out G7.out (by decide)) _, fun h0_ => absurd ((up_self b 8).symm.trans h0_) (by decide), fun _ _ => blk_put G7.out 1 _ rfl, fun _ => blk_far G9.out (blk_ne G9.out G7.out (by decide)) _, fun h0_ => absurd ((hoff 11 (by kernel_rfl)).symm.trans h0_) (by decide), fun _ h1_ => absurd ((hon 6 (by kernel_rfl)).symm.trans h1_) (by decide), fun h0_ => absurd ((hon 6 (by kernel_rfl)).symm.trans h0_) (by decide), fun _ => Kd.R_set R7N.out G7.out (by decide) 1 _, Kd.R_set R8.out G7.out (by decide) 1 _, Q_NN, Q_X5_, Q_X6_⟩
                refine steps_cons ?_ ?_
                · rintro b a w' ⟨gb_, A76_, c76_, m5_, m6_, ha, Q_FB, Q_G5, Q_G6, Q_G8, Q_G11, Q_G7, Q_G7N, Q_G9, Q_G9N, Q_GB, Q_R7, Q_R7N, Q_R8, Q_NN, Q_X5_, Q_X6_⟩ hb_ hon hoff
                  refine ⟨_, rfl, fun K hK => ?_⟩
                  have e9 : a.tmps[9]? = some (.pointer (some ⟨g9, 0, none⟩)) := by rw [ha]; exact (putSel_off rfl).trans rfl
                  have e71 : a.tmps[71]? = some (.int .i64 (s : Int)) := by rw [ha]; exact putSel_on (e := (1, 71, .int .i64 (s : Int))) 1 rfl rfl (hon 1 (by kernel_rfl)) rfl
                  replace ha := Aside0.mk ha
                  have FB := Aside0.mk Q_FB
                  have G5 := Aside0.mk Q_G5
                  have G6 := Aside0.mk Q_G6
                  have G8 := Aside0.mk Q_G8
                  have G11 := Aside0.mk Q_G11
                  have G9 := Aside0.mk (Q_G9 (hoff 11 (by kernel_rfl)))
                  have R8 := Aside0.mk Q_R8
                  refine value_ (w1 := w') (v := .pointer (some ⟨g9, s * 2, none⟩)) (by rfl) rfl ?_ ?_
                  · go_simp
                    (try simp only [i64_w])
                    try rfl
                  refine hK.out _ _ ⟨gb_, A76_, c76_, m5_, m6_, (by rw [ha.out]; exact putSel_upk 8 hb_ rfl rfl rfl), Q_FB, Q_G5, Q_G6, Q_G8, Q_G11, Q_G7, Q_G7N, Q_G9, fun h0_ => absurd ((hoff 11 (by kernel_rfl)).symm.trans h0_) (by decide), Q_GB, Q_R7, Q_R7N, Q_R8, Q_NN, Q_X5_, Q_X6_⟩
                refine steps_cons ?_ ?_
                · rintro b a w' ⟨gb_, A76_, c76_, m5_, m6_, ha, Q_FB, Q_G5, Q_G6, Q_G8, Q_G11, Q_G7, Q_G7N, Q_G9, Q_G9N, Q_GB, Q_R7, Q_R7N, Q_R8, Q_NN, Q_X5_, Q_X6_⟩ hb_ hon hoff
                  refine ⟨_, rfl, fun K hK => ?_⟩
                  have e78 : a.tmps[78]? = some (.pointer (some ⟨g9, s * 2, none⟩)) := by rw [ha]; exact putSel_on (e := (9, 78, .pointer (some ⟨g9, s * 2, none⟩))) 8 rfl rfl (hon 9 (by kernel_rfl)) rfl
                  replace ha := Aside0.mk ha
                  have FB := Aside0.mk Q_FB
                  have G5 := Aside0.mk Q_G5
                  have G6 := Aside0.mk Q_G6
                  have G8 := Aside0.mk Q_G8
                  have G11 := Aside0.mk Q_G11
                  have G7N := Aside0.mk (Q_G7N (hon 6 (by kernel_rfl)) (hon 8 (by kernel_rfl)))
                  have G9 := Aside0.mk (Q_G9 (hoff 11 (by kernel_rfl)))
                  have R7N := Aside0.mk (Q_R7N (hon 6 (by kernel_rfl)))
                  have R8 := Aside0.mk Q_R8
                  have NN := Aside0.mk (Q_NN (hon 6 (by kernel_rfl)))
                  refine value_ (w1 := w') (v := .pointer (some ⟨g9, s * 2, none⟩)) (by rfl) rfl ?_ ?_
                  · go_simp
                    (try simp only [i64_w])
                    try rfl
                  refine hK.out _ _ ⟨gb_, A76_, c76_, m5_, m6_, (by rw [ha.out]; exact putSel_upk 9 hb_ rfl rfl rfl), Q_FB, Q_G5, Q_G6, Q_G8, Q_G11, fun h0_ => absurd ((hon 8 (by kernel_rfl)).symm.trans h0_) (by decide), Q_G7N, Q_G9, fun h0_ => absurd ((hoff 11 (by kernel_rfl)).symm.trans h0_) (by decide), fun _ h1_ => absurd ((hon 6 (by kernel_rfl)).symm.trans h1_) (by decide), fun h0_ => absurd ((hon 6 (by kernel_rfl)).symm.trans h0_) (by decide), Q_R7N, Q_R8, Q_NN, Q_X5_, Q_X6_⟩
                refine steps_cons ?_ ?_
                · rintro b a w' ⟨gb_, A76_, c76_, m5_, m6_, ha, Q_FB, Q_G5, Q_G6, Q_G8, Q_G11, Q_G7, Q_G7N, Q_G9, Q_G9N, Q_GB, Q_R7, Q_R7N, Q_R8, Q_NN, Q_X5_, Q_X6_⟩ hb_ hon hoff
                  refine ⟨_, rfl, fun K hK => ?_⟩
                  have e79 : a.tmps[79]? = some (.pointer (some ⟨g9, s * 2, none⟩)) := by rw [ha]; exact putSel_on (e := (10, 79, .pointer (some ⟨g9, s * 2, none⟩))) 9 rfl rfl (hon 10 (by kernel_rfl)) rfl
                  replace ha := Aside0.mk ha
                  have FB := Aside0.mk Q_FB
                  have G5 := Aside0.mk Q_G5
                  have G6 := Aside0.mk Q_G6
                  have G8 := Aside0.mk Q_G8
                  have G11 := Aside0.mk Q_G11
                  have G7N := Aside0.mk (Q_G7N (hon 6 (by kernel_rfl)) (hon 8 (by kernel_rfl)))
                  have G9 := Aside0.mk (Q_G9 hb_)
                  have R7N := Aside0.mk (Q_R7N (hon 6 (by kernel_rfl)))
                  have R8 := Aside0.mk Q_R8
                  have NN := Aside0.mk (Q_NN (hon 6 (by kernel_rfl)))
                  have f1_ := blk_frozen G9.out (s * 2)
                  have c1_ : w'.cell? ⟨g9, s * 2, none⟩ = _ := (blk_cell G9.out (s * 2)).trans (byA_at1 _ _ s hs3)
                  refine skip_ (w1 := w'.setCell ⟨g9, s * 2, none⟩ (.bool true)) (by rfl) rfl ?_ ?_
                  · go_simp
                    try rfl
                  refine hK.out _ _ ⟨gb_, A76_, c76_, m5_, m6_, (by rw [ha.out]; exact putSel_none (v := undef) rfl), below_set FB.out hB9, blk_far G5.out (blk_ne G5.out G9.out (by decide)) _, blk_far G6.out (blk_ne G6.out G9.out (by decide)) _, blk_far G8.out (blk_ne G8.out G9.out (by decide)) _, blk_far G11.out (blk_ne G11.out G9.out (by decide)) _, fun h0_ => absurd ((hon 8 (by kernel_rfl)).symm.trans h0_) (by decide), fun _ _ => blk_far G7N.out (blk_ne G7N.out G9.out (by decide)) _, fun h0_ => absurd ((up_self b 11).symm.trans h0_) (by decide), fun _ => blk_put G9.out _ _ (byA_one _ _ s hs3), fun _ h1_ => absurd ((hon 6 (by kernel_rfl)).symm.trans h1_) (by decide), fun h0_ => absurd ((hon 6 (by kernel_rfl)).symm.trans h0_) (by decide), fun _ => Kd.R_set R7N.out G9.out (by decide) _ _, Kd.R_set R8.out G9.out (by decide) _ _, Q_NN, Q_X5_, Q_X6_⟩
                exact steps_nil
              · rintro b a w' hall ⟨gb_, A76_, c76_, m5_, m6_, ha, Q_FB, Q_G5, Q_G6, Q_G8, Q_G11, Q_G7, Q_G7N, Q_G9, Q_G9N, Q_GB, Q_R7, Q_R7N, Q_R8, Q_NN, Q_X5_, Q_X6_⟩
                clear FB G11 G5 G6 G7 G8 G9 R7 R8
                have hb0_ := hall 0 (by kernel_rfl)
                have hb1_ := hall 1 (by kernel_rfl)
                have hb2_ := hall 2 (by kernel_rfl)
                have hb3_ := hall 3 (by kernel_rfl)
                have hb4_ := hall 4 (by kernel_rfl)
                have hb5_ := hall 5 (by kernel_rfl)
                have hb6_ := hall 6 (by kernel_rfl)
                have hb7_ := hall 7 (by kernel_rfl)
                have hb8_ := hall 8 (by kernel_rfl)
                have hb9_ := hall 9 (by kernel_rfl)
                have hb10_ := hall 10 (by kernel_rfl)
                have hb11_ := hall 11 (by kernel_rfl)
                subst ha
                obtain rfl := Q_X5_ hb5_
                obtain rfl := Q_X6_ hb6_
                simp only [putSel, hb0_, hb1_, hb2_, hb3_, hb4_, hb5_, hb6_, hb7_, hb8_, hb9_, hb10_, hb11_, if_true, Act.put, List.setIfInBounds_toArray, List.set_cons_zero, List.set_cons_succ]
                have FB := Aside0.mk Q_FB
                clear Q_FB
                have G5 := Aside0.mk Q_G5
                clear Q_G5
                have G6 := Aside0.mk Q_G6
                clear Q_G6
                have G8 := Aside0.mk Q_G8
                clear Q_G8
                have G11 := Aside0.mk Q_G11
                clear Q_G11
                clear Q_G7
                have G7N := Aside0.mk (Q_G7N hb6_ hb8_)
                clear Q_G7N
                clear Q_G9
                have G9N := Aside0.mk (Q_G9N hb11_)
                clear Q_G9N
                clear Q_GB
                clear Q_R7
                have R7N := Aside0.mk (Q_R7N hb6_)
                clear Q_R7N
                have R8 := Aside0.mk Q_R8
                clear Q_R8
                have NN := Aside0.mk (Q_NN hb6_)
                clear Q_NN
                clear hall hb0_ hb1_ hb2_ hb3_ hb4_ hb5_ hb6_ hb7_ hb8_ hb9_ hb10_ hb11_
                go_wp2_with fail
                go_meet
                exact ⟨A76_, A8, c76_, c8, G5, G6, ⟨by rw [e7, hln]; exact G7N.out⟩, ⟨by rw [e8]; exact G8.out⟩, ⟨by rw [e7, e8, hfn]; exact G9N.out⟩, ⟨by rw [e7, hln]; exact R7N.out⟩, ⟨by rw [e8]; exact R8.out⟩, ⟨by rw [e7, e8, hln]; exact NN.out⟩, FB⟩
            | false =>
              replace e7 : pick bt chg (k + 1) = P7 := e7
              replace e8 : pick (fun i => !bt i) chg (k + 1) = P8 ++ [⟨aT, (s : Int), nm⟩] := e8
              have hfn : (hasSt (P8 ++ [⟨aT, (s : Int), nm⟩])) = (fun i => hasSt P8 i || decide (s = i)) := by funext i; rw [hasSt_app]; simp
              have hln : (P8 ++ [(⟨aT, (s : Int), nm⟩ : S32)]).length = P8.length + 1 := by simp
              go_upto_region 10 with fail
              refine start_ (n := 12) (S := fun w' => True) (ds := []) #[false, false, false, false, false, false, false, false, false, false, false, false] (by kernel_rfl) rfl rfl trivial (fun hHeld => ?_)
              refine with_tabW clerks.tab10 clerks.bits10 (fun HT_ HW_ => ?_)
              have FB := Aside0.mk (below_drew HBi.out)
              replace G5 := Aside0.mk (blk_drew G5.out)
              replace G6 := Aside0.mk (blk_drew G6.out)
              replace G7 := Aside0.mk (blk_drew G7.out)
              replace G8 := Aside0.mk (blk_drew G8.out)
              replace G9 := Aside0.mk (blk_drew G9.out)
              replace G11 := Aside0.mk (blk_drew G11.out)
              replace R7 := Aside0.mk (Kd.R_drew R7.out)
              replace R8 := Aside0.mk (Kd.R_drew R8.out)
              generalize wi.drew = w8 at FB G5 G6 G7 G8 G9 G11 R7 R8 ⊢
              refine inv_at [0, 1, 2, 3, 4, 5, 6, 7, 8, 9, 10, 11] (fun a0_ b a w' => ∃ (gb_ : Nat) (A76_ : Option Addr) (c76_ : Nat) (m5_ : Value) (m6_ : Value), a = putSel a0_ b [(0, 80, .pointer (some ⟨g11, 1, none⟩)), (1, 81, .int .i64 (s : Int)), (2, 82, .pointer (some ⟨g8, 1, none⟩)), (3, 83, .slice A8 P8.length c8), (4, 84, .agg #[.int .i64 aT, .int .i64 (s : Int), .string nm]), (5, 85, m5_), (6, 86, m6_), (7, 87, .pointer (some ⟨g8, 1, none⟩)), (9, 88, .pointer (some ⟨g9, s * 2, none⟩)), (10, 89, .pointer (some ⟨g9, s * 2 + 1, none⟩))] ∧ (Below w1.heap.size w1 w') ∧ (w'.heap[g5]? = some (.cells #[.slice B1 3 j1, .slice (some ⟨g2, 0, none⟩) chg.length j2] 27 (0, 0))) ∧ (w'.heap[g6]? = some (.cells #[.slice B1 3 j1, .slice none 0 0] 27 (0, 0))) ∧ (w'.heap[g7]? = some (.cells #[.slice B1 3 j1, .slice A7 P7.length c7] 27 (0, 0))) ∧ (w'.heap[g11]? = some (.cells #[.int .i64 aT, .int .i64 (s : Int), .string nm] 32 (0, 0))) ∧ (b 8 = false → w'.heap[g8]? = some (.cells #[.slice B1 3 j1, .slice A8 P8.length c8] 27 (0, 0))) ∧ (b 6 = true → b 8 = true → w'.heap[g8]? = some (.cells #[.slice B1 3 j1, .slice A76_ (P8.length + 1) c76_] 27 (0, 0))) ∧ (b 11 = false → w'.heap[g9]? = some (.cells (byA (hasSt P7) (hasSt P8)) 30 (0, 0))) ∧ (b 11 = true → w'.heap[g9]? = some (.cells (byA (hasSt P7) (fun i => hasSt P8 i || decide (s = i))) 30 (0, 0))) ∧ (b 5 = true → b 6 = false → w'.heap[gb_]? = some (.cells #[.int .i64 aT, .int .i64 (s : Int), .string nm] 32 (0, 0))) ∧ (b 6 = false → k32.R 32 w' w1.heap.size (fun _ => True) (.slice A8 P8.length c8) P8) ∧ (b 6 = true → k32.R 32 w' w1.heap.size (fun _ => True) (.slice A76_ (P8.length + 1) c76_) (P8 ++ [⟨aT, (s : Int), nm⟩])) ∧ (k32.R 32 w' w1.heap.size (fun _ => True) (.slice A7 P7.length c7) P7) ∧ (b 6 = true → (∀ k, (.slice A76_ (P8.length + 1) c76_ : Value).ownBlock = some k → some k ≠ (.slice A7 P7.length c7 : Value).ownBlock)) ∧ (b 5 = true → (m5_ : Value) = .slice (some ⟨gb_, 0, none⟩) 1 1) ∧ (b 6 = true → (m6_ : Value) = .slice A76_ (P8.length + 1) c76_)) HT_.out HW_.out (by kernel_rfl) (by kernel_rfl) ?_ ?_ ?_
              · exact ⟨0, none, 0, .bool false, .bool false, by simp only [putSel, Bool.false_eq_true, if_false], FB.out, G5.out, G6.out, G7.out, G11.out, fun _ => G8.out, fun h_ => absurd h_ (by decide), fun _ => G9.out, fun h_ => absurd h_ (by decide), fun h_ => absurd h_ (by decide), fun _ => R8.out, fun h_ => absurd h_ (by decide), R7.out, fun h_ => absurd h_ (by decide), fun h_ => absurd h_ (by decide), fun h_ => absurd h_ (by decide)⟩
              · skip
                clear FB G11 G5 G6 G7 G8 G9 R7 R8
                refine steps_cons ?_ ?_
                · rintro b a w' ⟨gb_, A76_, c76_, m5_, m6_, ha, Q_FB, Q_G5, Q_G6, Q_G7, Q_G11, Q_G8, Q_G8N, Q_G9, Q_G9N, Q_GB, Q_R8, Q_R8N, Q_R7, Q_NN, Q_X5_, Q_X6_⟩ hb_ hon hoff
                  refine ⟨_, rfl, fun K hK => ?_⟩
                  have e11 : a.tmps[11]? = some (.pointer (some ⟨g11, 0, none⟩)) := by rw [ha]; exact (putSel_off rfl).trans rfl
                  replace ha := Aside0.mk ha
                  have FB := Aside0.mk Q_FB
                  have G5 := Aside0.mk Q_G5
                  have G6 := Aside0.mk Q_G6
                  have G7 := Aside0.mk Q_G7
                  have G11 := Aside0.mk Q_G11
                  have G9 := Aside0.mk (Q_G9 (hoff 11 (by kernel_rfl)))
                  have R7 := Aside0.mk Q_R7
                  refine value_ (w1 := w') (v := .pointer (some ⟨g11, 1, none⟩)) (by rfl) rfl ?_ ?_
                  · go_simp
                    (try simp only [i64_w])
                    try rfl
                  refine hK.out _ _ ⟨gb_, A76_, c76_, m5_, m6_, (by rw [ha.out]; exact putSel_upk 0 hb_ rfl rfl rfl), Q_FB, Q_G5, Q_G6, Q_G7, Q_G11, Q_G8, Q_G8N, Q_G9, fun h0_ => absurd ((hoff 11 (by kernel_rfl)).symm.trans h0_) (by decide), Q_GB, Q_R8, Q_R8N, Q_R7, Q_NN, Q_X5_, Q_X6_⟩
                refine steps_cons ?_ ?_
                · rintro b a w' ⟨gb_, A76_, c76_, m5_, m6_, ha, Q_FB, Q_G5, Q_G6, Q_G7, Q_G11, Q_G8, Q_G8N, Q_G9, Q_G9N, Q_GB, Q_R8, Q_R8N, Q_R7, Q_NN, Q_X5_, Q_X6_⟩ hb_ hon hoff
                  refine ⟨_, rfl, fun K hK => ?_⟩
                  have e80 : a.tmps[80]? = some (.pointer (some ⟨g11, 1, none⟩)) := by rw [ha]; exact putSel_on (e := (0, 80, .pointer (some ⟨g11, 1, none⟩))) 0 rfl rfl (hon 0 (by kernel_rfl)) rfl
                  replace ha := Aside0.mk ha
                  have FB := Aside0.mk Q_FB
                  have G5 := Aside0.mk Q_G5
                  have G6 := Aside0.mk Q_G6
                  have G7 := Aside0.mk Q_G7
                  have G11 := Aside0.mk Q_G11
                  have G9 := Aside0.mk (Q_G9 (hoff 11 (by kernel_rfl)))
                  have R7 := Aside0.mk Q_R7
                  have c0_ : w'.cell? ⟨g11, 0, none⟩ = some (.int .i64 aT) := (blk_cell G11.out 0).trans rfl
                  have c1_ : w'.cell? ⟨g11, 1, none⟩ = some (.int .i64 (s : Int)) := (blk_cell G11.out 1).trans rfl
                  have c2_ : w'.cell? ⟨g11, 2, none⟩ = some (.string nm) := (blk_cell G11.out 2).trans rfl
                  refine value_ (w1 := w') (v := .int .i64 (s : Int)) (by rfl) rfl ?_ ?_
                  · go_simp
                    (try simp only [i64_w])
                    try rfl
                  refine hK.out _ _ ⟨gb_, A76_, c76_, m5_, m6_, (by rw [ha.out]; exact putSel_upk 1 hb_ rfl rfl rfl), Q_FB, Q_G5, Q_G6, Q_G7, Q_G11, Q_G8, Q_G8N, Q_G9, fun h0_ => absurd ((hoff 11 (by kernel_rfl)).symm.trans h0_) (by decide), Q_GB, Q_R8, Q_R8N, Q_R7, Q_NN, Q_X5_, Q_X6_⟩
                refine steps_cons ?_ ?_
                · rintro b a w' ⟨gb_, A76_, c76_, m5_, m6_, ha, Q_FB, Q_G5, Q_G6, Q_G7, Q_G11, Q_G8, Q_G8N, Q_G9, Q_G9N, Q_GB, Q_R8, Q_R8N, Q_R7, Q_NN, Q_X5_, Q_X6_⟩ hb_ hon hoff
                  refine ⟨_, rfl, fun K hK => ?_⟩
                  have e8 : a.tmps[8]? = some (.pointer (some ⟨g8, 0, none⟩)) := by rw [ha]; exact (putSel_off rfl).trans rfl
                  replace ha := Aside0.mk ha
                  have FB := Aside0.mk Q_FB
                  have G5 := Aside0.mk Q_G5
                  have G6 := Aside0.mk Q_G6
                  have G7 := Aside0.mk Q_G7
                  have G11 := Aside0.mk Q_G11
                  have G8 := Aside0.mk (Q_G8 (hoff 8 (by kernel_rfl)))
                  have G9 := Aside0.mk (Q_G9 (hoff 11 (by kernel_rfl)))
                  have R8 := Aside0.mk (Q_R8 (hoff 6 (by kernel_rfl)))
                  have R7 := Aside0.mk Q_R7
                  refine value_ (w1 := w') (v := .pointer (some ⟨g8, 1, none⟩)) (by rfl) rfl ?_ ?_
                  · go_simp
                    (try simp only [i64_w])
                    try rfl
                  refine hK.out _ _ ⟨gb_, A76_, c76_, m5_, m6_, (by rw [ha.out]; exact putSel_upk 2 hb_ rfl rfl rfl), Q_FB, Q_G5, Q_G6, Q_G7, Q_G11, Q_G8, fun h0_ _ => absurd ((hoff 6 (by kernel_rfl)).symm.trans h0_) (by decide), Q_G9, fun h0_ => absurd ((hoff 11 (by kernel_rfl)).symm.trans h0_) (by decide), Q_GB, Q_R8, fun h0_ => absurd ((hoff 6 (by kernel_rfl)).symm.trans h0_) (by decide), Q_R7, fun h0_ => absurd ((hoff 6 (by kernel_rfl)).symm.trans h0_) (by decide), Q_X5_, fun h0_ => absurd ((hoff 6 (by kernel_rfl)).symm.trans h0_) (by decide)⟩
                refine steps_cons ?_ ?_
                · rintro b a w' ⟨gb_, A76_, c76_, m5_, m6_, ha, Q_FB, Q_G5, Q_G6, Q_G7, Q_G11, Q_G8, Q_G8N, Q_G9, Q_G9N, Q_GB, Q_R8, Q_R8N, Q_R7, Q_NN, Q_X5_, Q_X6_⟩ hb_ hon hoff
                  refine ⟨_, rfl, fun K hK => ?_⟩
                  have e82 : a.tmps[82]? = some (.pointer (some ⟨g8, 1, none⟩)) := by rw [ha]; exact putSel_on (e := (2, 82, .pointer (some ⟨g8, 1, none⟩))) 2 rfl rfl (hon 2 (by kernel_rfl)) rfl
                  replace ha := Aside0.mk ha
                  have FB := Aside0.mk Q_FB
                  have G5 := Aside0.mk Q_G5
                  have G6 := Aside0.mk Q_G6
                  have G7 := Aside0.mk Q_G7
                  have G11 := Aside0.mk Q_G11
                  have G8 := Aside0.mk (Q_G8 (hoff 8 (by kernel_rfl)))
                  have G9 := Aside0.mk (Q_G9 (hoff 11 (by kernel_rfl)))
                  have R8 := Aside0.mk (Q_R8 (hoff 6 (by kernel_rfl)))
                  have R7 := Aside0.mk Q_R7
                  have c1_ : w'.cell? ⟨g8, 1, none⟩ = some (.slice A8 P8.length c8) := (blk_cell G8.out 1).trans rfl
                  refine value_ (w1 := w') (v := .slice A8 P8.length c8) (by rfl) rfl ?_ ?_
                  · go_simp
                    (try simp only [i64_w])
                    try rfl
                  refine hK.out _ _ ⟨gb_, A76_, c76_, m5_, m6_, (by rw [ha.out]; exact putSel_upk 3 hb_ rfl rfl rfl), Q_FB, Q_G5, Q_G6, Q_G7, Q_G11, Q_G8, fun h0_ _ => absurd ((hoff 6 (by kernel_rfl)).symm.trans h0_) (by decide), Q_G9, fun h0_ => absurd ((hoff 11 (by kernel_rfl)).symm.trans h0_) (by decide), Q_GB, Q_R8, fun h0_ => absurd ((hoff 6 (by kernel_rfl)).symm.trans h0_) (by decide), Q_R7, fun h0_ => absurd ((hoff 6 (by kernel_rfl)).symm.trans h0_) (by decide), Q_X5_, fun h0_ => absurd ((hoff 6 (by kernel_rfl)).symm.trans h0_) (by decide)⟩
                refine steps_cons ?_ ?_
                · rintro b a w' ⟨gb_, A76_, c76_, m5_, m6_, ha, Q_FB, Q_G5, Q_G6, Q_G7, Q_G11, Q_G8, Q_G8N, Q_G9, Q_G9N, Q_GB, Q_R8, Q_R8N, Q_R7, Q_NN, Q_X5_, Q_X6_⟩ hb_ hon hoff
                  refine ⟨_, rfl, fun K hK => ?_⟩
                  have e11 : a.tmps[11]? = some (.pointer (some ⟨g11, 0, none⟩)) := by rw [ha]; exact (putSel_off rfl).trans rfl
                  replace ha := Aside0.mk ha
                  have FB := Aside0.mk Q_FB
                  have G5 := Aside0.mk Q_G5
                  have G6 := Aside0.mk Q_G6
                  have G7 := Aside0.mk Q_G7
                  have G11 := Aside0.mk Q_G11
                  have G8 := Aside0.mk (Q_G8 (hoff 8 (by kernel_rfl)))
                  have G9 := Aside0.mk (Q_G9 (hoff 11 (by kernel_rfl)))
                  have R8 := Aside0.mk (Q_R8 (hoff 6 (by kernel_rfl)))
                  have R7 := Aside0.mk Q_R7
                  have c0_ : w'.cell? ⟨g11, 0, none⟩ = some (.int .i64 aT) := (blk_cell G11.out 0).trans rfl
                  have c1_ : w'.cell? ⟨g11, 1, none⟩ = some (.int .i64 (s : Int)) := (blk_cell G11.out 1).trans rfl
                  have c2_ : w'.cell? ⟨g11, 2, none⟩ = some (.string nm) := (blk_cell G11.out 2).trans rfl
                  refine value_ (w1 := w') (v := .agg #[.int .i64 aT, .int .i64 (s : Int), .string nm]) (by rfl) rfl ?_ ?_
                  · go_simp
                    (try simp only [i64_w])
                    try rfl
                  refine hK.out _ _ ⟨gb_, A76_, c76_, m5_, m6_, (by rw [ha.out]; exact putSel_upk 4 hb_ rfl rfl rfl), Q_FB, Q_G5, Q_G6, Q_G7, Q_G11, Q_G8, fun h0_ _ => absurd ((hoff 6 (by kernel_rfl)).symm.trans h0_) (by decide), Q_G9, fun h0_ => absurd ((hoff 11 (by kernel_rfl)).symm.trans h0_) (by decide), fun h0_ _ => absurd ((hoff 5 (by kernel_rfl)).symm.trans h0_) (by decide), Q_R8, fun h0_ => absurd ((hoff 6 (by kernel_rfl)).symm.trans h0_) (by decide), Q_R7, fun h0_ => absurd ((hoff 6 (by kernel_rfl)).symm.trans h0_) (by decide), fun h0_ => absurd ((hoff 5 (by kernel_rfl)).symm.trans h0_) (by decide), fun h0_ => absurd ((hoff 6 (by kernel_rfl)).symm.trans h0_) (by decide)⟩
                refine steps_cons ?_ ?_
                · rintro b a w' ⟨gb_, A76_, c76_, m5_, m6_, ha, Q_FB, Q_G5, Q_G6, Q_G7, Q_G11, Q_G8, Q_G8N, Q_G9, Q_G9N, Q_GB, Q_R8, Q_R8N, Q_R7, Q_NN, Q_X5_, Q_X6_⟩ hb_ hon hoff
                  refine ⟨_, rfl, fun K hK => ?_⟩
                  have e84 : a.tmps[84]? = some (.agg #[.int .i64 aT, .int .i64 (s : Int), .string nm]) := by rw [ha]; exact putSel_on (e := (4, 84, .agg #[.int .i64 aT, .int .i64 (s : Int), .string nm])) 4 rfl rfl (hon 4 (by kernel_rfl)) rfl
                  replace ha := Aside0.mk ha
                  have FB := Aside0.mk Q_FB
                  have G5 := Aside0.mk Q_G5
                  have G6 := Aside0.mk Q_G6
                  have G7 := Aside0.mk Q_G7
                  have G11 := Aside0.mk Q_G11
                  have G8 := Aside0.mk (Q_G8 (hoff 8 (by kernel_rfl)))
                  have G9 := Aside0.mk (Q_G9 (hoff 11 (by kernel_rfl)))
                  have R8 := Aside0.mk (Q_R8 (hoff 6 (by kernel_rfl)))
                  have R7 := Aside0.mk Q_R7
                  refine value_ (w1 := w'.alloc (.cells #[.int .i64 aT, .int .i64 (s : Int), .string nm] 32)) (v := .slice (some ⟨w'.heap.size, 0, none⟩) 1 1) (by rfl) rfl ?_ ?_
                  · go_simp
                    try rfl
                  refine hK.out _ _ ⟨w'.heap.size, A76_, c76_, (.slice (some ⟨w'.heap.size, 0, none⟩) 1 1), m6_, (by rw [ha.out]; exact putSel_upk 5 hb_ rfl rfl rfl), below_alloc FB.out _, blk_alloc G5.out _, blk_alloc G6.out _, blk_alloc G7.out _, blk_alloc G11.out _, fun _ => blk_alloc G8.out _, fun h0_ _ => absurd ((hoff 6 (by kernel_rfl)).symm.trans h0_) (by decide), fun _ => blk_alloc G9.out _, fun h0_ => absurd ((hoff 11 (by kernel_rfl)).symm.trans h0_) (by decide), fun _ _ => blk_new w' _, fun _ => Kd.R_alloc R8.out _, fun h0_ => absurd ((hoff 6 (by kernel_rfl)).symm.trans h0_) (by decide), Kd.R_alloc R7.out _, fun h0_ => absurd ((hoff 6 (by kernel_rfl)).symm.trans h0_) (by decide), fun _ => rfl, fun h0_ => absurd ((hoff 6 (by kernel_rfl)).symm.trans h0_) (by decide)⟩
                refine steps_cons ?_ ?_
                · rintro b a w' ⟨gb_, A76_, c76_, m5_, m6_, ha, Q_FB, Q_G5, Q_G6, Q_G7, Q_G11, Q_G8, Q_G8N, Q_G9, Q_G9N, Q_GB, Q_R8, Q_R8N, Q_R7, Q_NN, Q_X5_, Q_X6_⟩ hb_ hon hoff
                  refine ⟨_, rfl, fun K hK => ?_⟩
                  have e83 : a.tmps[83]? = some (.slice A8 P8.length c8) := by rw [ha]; exact putSel_on (e := (3, 83, .slice A8 P8.length c8)) 3 rfl rfl (hon 3 (by kernel_rfl)) rfl
                  have e85 : a.tmps[85]? = some (m5_) := by rw [ha]; exact putSel_on (e := (5, 85, m5_)) 5 rfl rfl (hon 5 (by kernel_rfl)) rfl
                  rw [Q_X5_ (hon 5 (by kernel_rfl))] at e85
                  replace ha := Aside0.mk ha
                  have FB := Aside0.mk Q_FB
                  have G5 := Aside0.mk Q_G5
                  have G6 := Aside0.mk Q_G6
                  have G7 := Aside0.mk Q_G7
                  have G11 := Aside0.mk Q_G11
                  have G8 := Aside0.mk (Q_G8 (hoff 8 (by kernel_rfl)))
                  have G9 := Aside0.mk (Q_G9 (hoff 11 (by kernel_rfl)))
                  have GB := Aside0.mk (Q_GB (hon 5 (by kernel_rfl)) hb_)
                  have R8 := Aside0.mk (Q_R8 hb_)
                  have R7 := Aside0.mk Q_R7
                  refine Kd.R_append_rows_step k32 (w0 := w1) w1.heap.size (by rfl) (.tmp 83) (.tmp 85) 25 32 (.agg #[.int .i64 0, .int .i64 0, .string ⟨#[]⟩]) 32 rfl Try.underlying25 infoStreet rfl (by decide) (by decide) (.slice A8 P8.length c8) P8 [⟨aT, (s : Int), nm⟩] (some ⟨gb_, 0, none⟩) 1 1 (fun _ => True) (fun _ => False) (eval_of e83) (eval_of e85) R8.out (chg_block GB.out) (fun x cs h => by rw [k32_open h]; exact k32_mkM _ _ _ _) (fun _ h => h.elim) (fun _ _ => trivial) FB.out FB.out.size (by omega) ?_
                  intro v9_ w9_ ho_ hb_1 hg_ hat_
                  have hn_ := own_apart NE8.out R7.out hat_
                  obtain ⟨An_, cn_, rfl⟩ := Kd.R_slice ho_
                  rw [hln] at ho_ hn_ ⊢
                  refine hK.out _ _ ⟨gb_, An_, cn_, m5_, (.slice An_ (P8.length + 1) cn_), (by rw [ha.out]; exact putSel_upk 6 hb_ rfl rfl rfl), hb_1, blk_grown G5.out hg_ (Kd.R_ne R8.out G5.out (by decide)), blk_grown G6.out hg_ (Kd.R_ne R8.out G6.out (by decide)), blk_grown G7.out hg_ (Kd.R_ne R8.out G7.out (by decide)), blk_grown G11.out hg_ H8.out, fun _ => blk_grown G8.out hg_ (Kd.R_ne R8.out G8.out (by decide)), fun _ h1_ => absurd ((hoff 8 (by kernel_rfl)).symm.trans h1_) (by decide), fun _ => blk_grown G9.out hg_ (Kd.R_ne R8.out G9.out (by decide)), fun h0_ => absurd ((hoff 11 (by kernel_rfl)).symm.trans h0_) (by decide), fun _ h1_ => absurd ((up_self b 6).symm.trans h1_) (by decide), fun h0_ => absurd ((up_self b 6).symm.trans h0_) (by decide), fun _ => ho_, Kd.R_grown2 R7.out rfl hg_ NE8.out, fun _ => hn_, Q_X5_, fun _ => rfl⟩
                refine steps_cons ?_ ?_
                · rintro b a w' ⟨gb_, A76_, c76_, m5_, m6_, ha, Q_FB, Q_G5, Q_G6, Q_G7, Q_G11, Q_G8, Q_G8N, Q_G9, Q_G9N, Q_GB, Q_R8, Q_R8N, Q_R7, Q_NN, Q_X5_, Q_X6_⟩ hb_ hon hoff
                  refine ⟨_, rfl, fun K hK => ?_⟩
                  have e8 : a.tmps[8]? = some (.pointer (some ⟨g8, 0, none⟩)) := by rw [ha]; exact (putSel_off rfl).trans rfl
                  replace ha := Aside0.mk ha
                  have FB := Aside0.mk Q_FB
                  have G5 := Aside0.mk Q_G5
                  have G6 := Aside0.mk Q_G6
                  have G7 := Aside0.mk Q_G7
                  have G11 := Aside0.mk Q_G11
                  have G8 := Aside0.mk (Q_G8 (hoff 8 (by kernel_rfl)))
                  have G9 := Aside0.mk (Q_G9 (hoff 11 (by kernel_rfl)))
                  have R8N := Aside0.mk (Q_R8N (hon 6 (by kernel_rfl)))
                  have R7 := Aside0.mk Q_R7
                  have NN := Aside0.mk (Q_NN (hon 6 (by kernel_rfl)))
                  refine value_ (w1 := w') (v := .pointer (some ⟨g8, 1, none⟩)) (by rfl) rfl ?_ ?_
                  · go_simp
                    (try simp only [i64_w])
                    try rfl
                  refine hK.out _ _ ⟨gb_, A76_, c76_, m5_, m6_, (by rw [ha.out]; exact putSel_upk 7 hb_ rfl rfl rfl), Q_FB, Q_G5, Q_G6, Q_G7, Q_G11, Q_G8, fun _ h1_ => absurd ((hoff 8 (by kernel_rfl)).symm.trans h1_) (by decide), Q_G9, fun h0_ => absurd ((hoff 11 (by kernel_rfl)).symm.trans h0_) (by decide), fun _ h1_ => absurd ((hon 6 (by kernel_rfl)).symm.trans h1_) (by decide), fun h0_ => absurd ((hon 6 (by kernel_rfl)).symm.trans h0_) (by decide), Q_R8N, Q_R7, Q_NN, Q_X5_, Q_X6_⟩
                refine steps_cons ?_ ?_
                · rintro b a w' ⟨gb_, A76_, c76_, m5_, m6_, ha, Q_FB, Q_G5, Q_G6, Q_G7, Q_G11, Q_G8, Q_G8N, Q_G9, Q_G9N, Q_GB, Q_R8, Q_R8N, Q_R7, Q_NN, Q_X5_, Q_X6_⟩ hb_ hon hoff
                  refine ⟨_, rfl, fun K hK => ?_⟩
                  have e87 : a.tmps[87]? = some (.pointer (some ⟨g8, 1, none⟩)) := by rw [ha]; exact putSel_on (e := (7, 87, .pointer (some ⟨g8, 1, none⟩))) 7 rfl rfl (hon 7 (by kernel_rfl)) rfl
                  have e86 : a.tmps[86]? = some (m6_) := by rw [ha]; exact putSel_on (e := (6, 86, m6_)) 6 rfl rfl (hon 6 (by kernel_rfl)) rfl
                  rw [Q_X6_ (hon 6 (by kernel_rfl))] at e86
                  replace ha := Aside0.mk ha
                  have FB := Aside0.mk Q_FB
                  have G5 := Aside0.mk Q_G5
                  have G6 := Aside0.mk Q_G6
                  have G7 := Aside0.mk Q_G7
                  have G11 := Aside0.mk Q_G11
                  have G8 := Aside0.mk (Q_G8 hb_)
                  have G9 := Aside0.mk (Q_G9 (hoff 11 (by kernel_rfl)))
                  have R8N := Aside0.mk (Q_R8N (hon 6 (by kernel_rfl)))
                  have R7 := Aside0.mk Q_R7
                  have NN := Aside0.mk (Q_NN (hon 6 (by kernel_rfl)))
                  have f1_ := blk_frozen G8.out 1
                  have c1_ : w'.cell? ⟨g8, 1, none⟩ = some (.slice A8 P8.length c8) := (blk_cell G8.out 1).trans rfl
                  refine skip_ (w1 := w'.setCell ⟨g8, 1, none⟩ (.slice A76_ (P8.length + 1) c76_)) (by rfl) rfl ?_ ?_
                  · go_simp
                    try rfl
                  refine hK.out _ _ ⟨gb_, A76_, c76_, m5_, m6_, (by rw [ha.out]; exact putSel_none (v := undef) rfl), below_set FB.out hB8, blk_far G5.out h58 _, blk_far G6.out h68 _, blk_far G7.out h78 _, blk_far G11.out (blk_ne G11.out G8.out (by decide)) _, fun h0_ => absurd ((up_self b 8).symm.trans h0_) (by decide), fun _ _ => blk_put G8.out 1 _ rfl, fun _ => blk_far G9.out (blk_ne G9.out G8.out (by decide)) _, fun h0_ => absurd ((hoff 11 (by kernel_rfl)).symm.trans h0_) (by decide), fun _ h1_ => absurd ((hon 6 (by kernel_rfl)).symm.trans h1_) (by decide), fun h0_ => absurd ((hon 6 (by kernel_rfl)).symm.trans h0_) (by decide), fun _ => Kd.R_set R8N.out G8.out (by decide) 1 _, Kd.R_set R7.out G8.out (by decide) 1 _, Q_NN, Q_X5_, Q_X6_⟩
                refine steps_cons ?_ ?_
                · rintro b a w' ⟨gb_, A76_, c76_, m5_, m6_, ha, Q_FB, Q_G5, Q_G6, Q_G7, Q_G11, Q_G8, Q_G8N, Q_G9, Q_G9N, Q_GB, Q_R8, Q_R8N, Q_R7, Q_NN, Q_X5_, Q_X6_⟩ hb_ hon hoff
                  refine ⟨_, rfl, fun K hK => ?_⟩
                  have e9 : a.tmps[9]? = some (.pointer (some ⟨g9, 0, none⟩)) := by rw [ha]; exact (putSel_off rfl).trans rfl
                  have e81 : a.tmps[81]? = some (.int .i64 (s : Int)) := by rw [ha]; exact putSel_on (e := (1, 81, .int .i64 (s : Int))) 1 rfl rfl (hon 1 (by kernel_rfl)) rfl
                  replace ha := Aside0.mk ha
                  have FB := Aside0.mk Q_FB
                  have G5 := Aside0.mk Q_G5
                  have G6 := Aside0.mk Q_G6
                  have G7 := Aside0.mk Q_G7
                  have G11 := Aside0.mk Q_G11
                  have G9 := Aside0.mk (Q_G9 (hoff 11 (by kernel_rfl)))
                  have R7 := Aside0.mk Q_R7
                  refine value_ (w1 := w') (v := .pointer (some ⟨g9, s * 2, none⟩)) (by rfl) rfl ?_ ?_
                  · go_simp
                    (try simp only [i64_w])
                    try rfl
                  refine hK.out _ _ ⟨gb_, A76_, c76_, m5_, m6_, (by rw [ha.out]; exact putSel_upk 8 hb_ rfl rfl rfl), Q_FB, Q_G5, Q_G6, Q_G7, Q_G11, Q_G8, Q_G8N, Q_G9, fun h0_ => absurd ((hoff 11 (by kernel_rfl)).symm.trans h0_) (by decide), Q_GB, Q_R8, Q_R8N, Q_R7, Q_NN, Q_X5_, Q_X6_⟩
                refine steps_cons ?_ ?_
                · rintro b a w' ⟨gb_, A76_, c76_, m5_, m6_, ha, Q_FB, Q_G5, Q_G6, Q_G7, Q_G11, Q_G8, Q_G8N, Q_G9, Q_G9N, Q_GB, Q_R8, Q_R8N, Q_R7, Q_NN, Q_X5_, Q_X6_⟩ hb_ hon hoff
                  refine ⟨_, rfl, fun K hK => ?_⟩
                  have e88 : a.tmps[88]? = some (.pointer (some ⟨g9, s * 2, none⟩)) := by rw [ha]; exact putSel_on (e := (9, 88, .pointer (some ⟨g9, s * 2, none⟩))) 8 rfl rfl (hon 9 (by kernel_rfl)) rfl
                  replace ha := Aside0.mk ha
                  have FB := Aside0.mk Q_FB
                  have G5 := Aside0.mk Q_G5
                  have G6 := Aside0.mk Q_G6
                  have G7 := Aside0.mk Q_G7
                  have G11 := Aside0.mk Q_G11
                  have G8N := Aside0.mk (Q_G8N (hon 6 (by kernel_rfl)) (hon 8 (by kernel_rfl)))
                  have G9 := Aside0.mk (Q_G9 (hoff 11 (by kernel_rfl)))
                  have R8N := Aside0.mk (Q_R8N (hon 6 (by kernel_rfl)))
                  have R7 := Aside0.mk Q_R7
                  have NN := Aside0.mk (Q_NN (hon 6 (by kernel_rfl)))
                  refine value_ (w1 := w') (v := .pointer (some ⟨g9, s * 2 + 1, none⟩)) (by rfl) rfl ?_ ?_
                  · go_simp
                    (try simp only [i64_w])
                    try rfl
                  refine hK.out _ _ ⟨gb_, A76_, c76_, m5_, m6_, (by rw [ha.out]; exact putSel_upk 9 hb_ rfl rfl rfl), Q_FB, Q_G5, Q_G6, Q_G7, Q_G11, fun h0_ => absurd ((hon 8 (by kernel_rfl)).symm.trans h0_) (by decide), Q_G8N, Q_G9, fun h0_ => absurd ((hoff 11 (by kernel_rfl)).symm.trans h0_) (by decide), fun _ h1_ => absurd ((hon 6 (by kernel_rfl)).symm.trans h1_) (by decide), fun h0_ => absurd ((hon 6 (by kernel_rfl)).symm.trans h0_) (by decide), Q_R8N, Q_R7, Q_NN, Q_X5_, Q_X6_⟩
                refine steps_cons ?_ ?_
                · rintro b a w' ⟨gb_, A76_, c76_, m5_, m6_, ha, Q_FB, Q_G5, Q_G6, Q_G7, Q_G11, Q_G8, Q_G8N, Q_G9, Q_G9N, Q_GB, Q_R8, Q_R8N, Q_R7, Q_NN, Q_X5_, Q_X6_⟩ hb_ hon hoff
                  refine ⟨_, rfl, fun K hK => ?_⟩
                  have e89 : a.tmps[89]? = some (.pointer (some ⟨g9, s * 2 + 1, none⟩)) := by rw [ha]; exact putSel_on (e := (10, 89, .pointer (some ⟨g9, s * 2 + 1, none⟩))) 9 rfl rfl (hon 10 (by kernel_rfl)) rfl
                  replace ha := Aside0.mk ha
                  have FB := Aside0.mk Q_FB
                  have G5 := Aside0.mk Q_G5
                  have G6 := Aside0.mk Q_G6
                  have G7 := Aside0.mk Q_G7
                  have G11 := Aside0.mk Q_G11
                  have G8N := Aside0.mk (Q_G8N (hon 6 (by kernel_rfl)) (hon 8 (by kernel_rfl)))
                  have G9 := Aside0.mk (Q_G9 hb_)
                  have R8N := Aside0.mk (Q_R8N (hon 6 (by kernel_rfl)))
                  have R7 := Aside0.mk Q_R7
                  have NN := Aside0.mk (Q_NN (hon 6 (by kernel_rfl)))
                  have f1_ := blk_frozen G9.out (s * 2 + 1)
                  have c1_ : w'.cell? ⟨g9, s * 2 + 1, none⟩ = _ := (blk_cell G9.out (s * 2 + 1)).trans (byA_at2 _ _ s hs3)
                  refine skip_ (w1 := w'.setCell ⟨g9, s * 2 + 1, none⟩ (.bool true)) (by rfl) rfl ?_ ?_
                  · go_simp
                    try rfl
                  refine hK.out _ _ ⟨gb_, A76_, c76_, m5_, m6_, (by rw [ha.out]; exact putSel_none (v := undef) rfl), below_set FB.out hB9, blk_far G5.out (blk_ne G5.out G9.out (by decide)) _, blk_far G6.out (blk_ne G6.out G9.out (by decide)) _, blk_far G7.out (blk_ne G7.out G9.out (by decide)) _, blk_far G11.out (blk_ne G11.out G9.out (by decide)) _, fun h0_ => absurd ((hon 8 (by kernel_rfl)).symm.trans h0_) (by decide), fun _ _ => blk_far G8N.out (blk_ne G8N.out G9.out (by decide)) _, fun h0_ => absurd ((up_self b 11).symm.trans h0_) (by decide), fun _ => blk_put G9.out _ _ (byA_two _ _ s hs3), fun _ h1_ => absurd ((hon 6 (by kernel_rfl)).symm.trans h1_) (by decide), fun h0_ => absurd ((hon 6 (by kernel_rfl)).symm.trans h0_) (by decide), fun _ => Kd.R_set R8N.out G9.out (by decide) _ _, Kd.R_set R7.out G9.out (by decide) _ _, Q_NN, Q_X5_, Q_X6_⟩
                exact steps_nil
              · rintro b a w' hall ⟨gb_, A76_, c76_, m5_, m6_, ha, Q_FB, Q_G5, Q_G6, Q_G7, Q_G11, Q_G8, Q_G8N, Q_G9, Q_G9N, Q_GB, Q_R8, Q_R8N, Q_R7, Q_NN, Q_X5_, Q_X6_⟩
                clear FB G11 G5 G6 G7 G8 G9 R7 R8
                have hb0_ := hall 0 (by kernel_rfl)
                have hb1_ := hall 1 (by kernel_rfl)
                have hb2_ := hall 2 (by kernel_rfl)
                have hb3_ := hall 3 (by kernel_rfl)
                have hb4_ := hall 4 (by kernel_rfl)
                have hb5_ := hall 5 (by kernel_rfl)
                have hb6_ := hall 6 (by kernel_rfl)
                have hb7_ := hall 7 (by kernel_rfl)
                have hb8_ := hall 8 (by kernel_rfl)
                have hb9_ := hall 9 (by kernel_rfl)
                have hb10_ := hall 10 (by kernel_rfl)
                have hb11_ := hall 11 (by kernel_rfl)
                subst ha
                obtain rfl := Q_X5_ hb5_
                obtain rfl := Q_X6_ hb6_
                simp only [putSel, hb0_, hb1_, hb2_, hb3_, hb4_, hb5_, hb6_, hb7_, hb8_, hb9_, hb10_, hb11_, if_true, Act.put, List.setIfInBounds_toArray, List.set_cons_zero, List.set_cons_succ]
                have FB := Aside0.mk Q_FB
                clear Q_FB
                have G5 := Aside0.mk Q_G5
                clear Q_G5
                have G6 := Aside0.mk Q_G6
                clear Q_G6
                have G7 := Aside0.mk Q_G7
                clear Q_G7
                have G11 := Aside0.mk Q_G11
                clear Q_G11
                clear Q_G8
                have G8N := Aside0.mk (Q_G8N hb6_ hb8_)
                clear Q_G8N
                clear Q_G9
                have G9N := Aside0.mk (Q_G9N hb11_)
                clear Q_G9N
                clear Q_GB
                clear Q_R8
                have R8N := Aside0.mk (Q_R8N hb6_)
                clear Q_R8N
                have R7 := Aside0.mk Q_R7
                clear Q_R7
                have NN := Aside0.mk (Q_NN hb6_)
                clear Q_NN
                clear hall hb0_ hb1_ hb2_ hb3_ hb4_ hb5_ hb6_ hb7_ hb8_ hb9_ hb10_ hb11_
                go_wp2_with fail
                go_meet
                exact ⟨A7, A76_, c7, c76_, G5, G6, ⟨by rw [e7]; exact G7.out⟩, ⟨by rw [e8, hln]; exact G8N.out⟩, ⟨by rw [e7, e8, hfn]; exact G9N.out⟩, ⟨by rw [e7]; exact R7.out⟩, ⟨by rw [e8, hln]; exact R8N.out⟩, ⟨by rw [e7, e8, hln]; exact fun g h h2 => NN.out g h2.symm h.symm⟩, FB⟩
        case rest =>
          obtain ⟨A7, A8, c7, c8, G5, G6, G7, G8, G9, R7, R8, NN, FB⟩ := hcut
          go_wp2_with fail
          go_roundw
          case rel => exact ⟨k + 1, A7, A8, c7, c8, by omega, by go_num, G5, G6, G7, G8, G9, R7, R8, NN, FB⟩
          case measure => simp [intOf]; omega
      · obtain rfl : k = chg.length := by omega
        have hltz : ¬ (chg.length : Int) < (chg.length : Int) := by omega
        have HW : Aside0 (∀ s, s < 3 → (hasSt (pick bt chg chg.length) s = false ∨ hasSt (pick (fun i => !bt i) chg chg.length) s = false) → want (lastN [] s) (lastN (pick bt chg chg.length) s) (lastN (pick (fun i => !bt i) chg chg.length) s) = lastN chg s ∧ wantC (lastN [] s) (lastN (pick bt chg chg.length) s) (lastN (pick (fun i => !bt i) chg chg.length) s) = false) := ⟨fun s hs h => want_one bt chg HG.out.ok s hs h⟩
        have OK7 := Aside0.mk (pick_town bt chg HG.out.ok chg.length)
        have OK8 := Aside0.mk (pick_town (fun i => !bt i) chg HG.out.ok chg.length)
        have IN7 : Aside0 (∀ c ∈ pick bt chg chg.length, In8 c.f2) := ⟨fun c hc => H8.out c ((pick_sub' bt chg chg.length).subset hc)⟩
        have IN8 : Aside0 (∀ c ∈ pick (fun i => !bt i) chg chg.length, In8 c.f2) := ⟨fun c hc => H8.out c ((pick_sub' (fun i => !bt i) chg chg.length).subset hc)⟩
        have hl7 := pick_length' bt chg chg.length
        have hl8 := pick_length' (fun i => !bt i) chg chg.length
        generalize pick bt chg chg.length = P7 at G7 G9 R7 NE7 HW OK7 IN7 hl7
        generalize pick (fun i => !bt i) chg chg.length = P8 at G8 G9 R8 NE7 HW OK8 IN8 hl8
        obtain ⟨_, hc7, hC7⟩ := Kd.R_reads' R7.out
        obtain ⟨_, hc8, hC8⟩ := Kd.R_reads' R8.out
        have HST5 := Lib.hid (fun W (hb : Below wo.heap.size wo W) => sloeStreets_ok B1 B2 j1 j2 first3 chg hj1 hj2 (by decide) (by omega) W (Kd.C_below K1.out (below_step HBo.out hb)) (Kd.C_below K2.out (below_step HBo.out hb)))
        have HST7 := Lib.hid (fun W (hb : Below wo.heap.size wo W) => sloeStreets_ok B1 A7 j1 c7 first3 P7 hj1 hc7 (by decide) (by omega) W (Kd.C_below K1.out (below_step HBo.out hb)) (Kd.C_below hC7 hb))
        have HST8 := Lib.hid (fun W (hb : Below wo.heap.size wo W) => sloeStreets_ok B1 A8 j1 c8 first3 P8 hj1 hc8 (by decide) (by omega) W (Kd.C_below K1.out (below_step HBo.out hb)) (Kd.C_below hC8 hb))
        have HCL5 := Lib.hid (fun X1 X2 y1 y2 W a b => Clash_good X1 X2 y1 y2 first3 chg HG.out W a b)
        have HCL7 := Lib.hid (fun X1 X2 y1 y2 W a b => Clash_any X1 X2 y1 y2 first3 P7 OK7.out W a b)
        have HCL8 := Lib.hid (fun X1 X2 y1 y2 W a b => Clash_any X1 X2 y1 y2 first3 P8 OK8.out W a b)
        have HL6 := Lib.hid (fun W (hb : Below wo.heap.size wo W) => last_ok B1 none j1 0 [] good0 (fun c hc => absurd hc (by simp)) hj1 (Nat.le_refl _) W (Kd.C_below K1.out (below_step HBo.out hb)) (Kd.C_nil _ W))
        have HL5 := Lib.hid (fun W (hb : Below wo.heap.size wo W) => last_ok B1 B2 j1 j2 chg HG.out H8.out hj1 hj2 W (Kd.C_below K1.out (below_step HBo.out hb)) (Kd.C_below K2.out (below_step HBo.out hb)))
        have HL7 := Lib.hid (fun g7 W (hb : Below wo.heap.size wo W) => last_ok B1 A7 j1 c7 P7 g7 IN7.out hj1 hc7 W (Kd.C_below K1.out (below_step HBo.out hb)) (Kd.C_below hC7 hb))
        have HL8 := Lib.hid (fun g8 W (hb : Below wo.heap.size wo W) => last_ok B1 A8 j1 c8 P8 g8 IN8.out hj1 hc8 W (Kd.C_below K1.out (below_step HBo.out hb)) (Kd.C_below hC8 hb))
        rw [show first3.length = 3 from rfl] at HST5 HST7 HST8 HCL5 HCL7 HCL8
        clear R7 R8 NE7 OK7 OK8 IN7 IN8 hC7 hC8 HBIT
        have HB1o := Aside0.mk (below_step HB1.out HBo.out)
        go_wp2_with fail
        refine (HST5.out wo (Below.refl _ _)).mono ?_
        rintro e w2 ⟨X1, X2, y1, y2, rfl, _, _, hs1, hs2, hb2⟩
        clear c50 c51
        go_wp2_with fail
        refine (HCL5.out X1 X2 y1 y2 w2 hs1 hs2).mono ?_
        rintro e w3 ⟨rfl, hb3⟩
        have HB3 := Aside0.mk (below_step hb2 hb3)
        clear hs1 hs2 hb2 hb3
        have c70 : w3.cell? ⟨g7, 0, none⟩ = some (.slice B1 3 j1) := (blk_cell (blk_below G7.out HB3.out) 0).trans rfl
        have c71 : w3.cell? ⟨g7, 1, none⟩ = some (.slice A7 P7.length c7) := (blk_cell (blk_below G7.out HB3.out) 1).trans rfl
        go_wp2_with fail
        refine (HST7.out w3 HB3.out).mono ?_
        rintro e w4 ⟨X1, X2, y1, y2, rfl, _, _, hs1, hs2, hb4⟩
        clear c70 c71
        go_wp2_with fail
        refine (HCL7.out X1 X2 y1 y2 w4 hs1 hs2).mono ?_
        rintro e w5 ⟨h7, E7, n7, z7, e7, rfl, hg7, hb5⟩
        have HB5 := Aside0.mk (below_step HB3.out (below_step hb4 hb5))
        clear hs1 hs2 hb4 hb5
        have c80 : w5.cell? ⟨g8, 0, none⟩ = some (.slice B1 3 j1) := (blk_cell (blk_below G8.out HB5.out) 0).trans rfl
        have c81 : w5.cell? ⟨g8, 1, none⟩ = some (.slice A8 P8.length c8) := (blk_cell (blk_below G8.out HB5.out) 1).trans rfl
        go_wp2_with fail
        refine (HST8.out w5 HB5.out).mono ?_
        rintro e w6 ⟨X1, X2, y1, y2, rfl, _, _, hs1, hs2, hb6⟩
        clear c80 c81
        go_wp2_with fail
        refine (HCL8.out X1 X2 y1 y2 w6 hs1 hs2).mono ?_
        rintro e w7 ⟨h8_, E8, n8, z8, e8, rfl, hg8, hb7⟩
        have HB7 := Aside0.mk (below_step HB5.out (below_step hb6 hb7))
        clear hs1 hs2 hb6 hb7 HB3 HB5 HCL5 HCL7 HCL8 HST7 HST8
        rcases hg7 with ⟨rfl, good7⟩ | rfl
        · rcases hg8 with ⟨rfl, good8⟩ | rfl
          · skip
            have IX : Aside0 (∀ s, s < 3 → IsNm (lastN [] s)) := ⟨fun s hs => lastN_ok good0 s hs⟩
            have IP : Aside0 (∀ s, s < 3 → IsNm (lastN P7 s)) := ⟨fun s hs => lastN_ok good7 s hs⟩
            have IQ : Aside0 (∀ s, s < 3 → IsNm (lastN P8 s)) := ⟨fun s hs => lastN_ok good8 s hs⟩
            have c60 : w7.cell? ⟨g6, 0, none⟩ = some (.slice B1 3 j1) := (blk_cell (blk_below G6.out HB7.out) 0).trans rfl
            have c61 : w7.cell? ⟨g6, 1, none⟩ = some (.slice none 0 0) := (blk_cell (blk_below G6.out HB7.out) 1).trans rfl
            go_wp2_with fail
            refine (HL6.out w7 HB7.out).mono ?_
            rintro e w8 ⟨qX, rX, rfl, hrX, hqX, hCX, hb8⟩
            have HB8 := Aside0.mk (below_step HB7.out hb8)
            have HCX := Aside0.mk hCX
            clear hCX hb8 c60 c61 HB7 HL6
            have c70 : w8.cell? ⟨g7, 0, none⟩ = some (.slice B1 3 j1) := (blk_cell (blk_below G7.out HB8.out) 0).trans rfl
            have c71 : w8.cell? ⟨g7, 1, none⟩ = some (.slice A7 P7.length c7) := (blk_cell (blk_below G7.out HB8.out) 1).trans rfl
            go_wp2_with fail
            refine (HL7.out good7 w8 HB8.out).mono ?_
            rintro e w9 ⟨qP, rP, rfl, hrP, hqP, hCP, hb9⟩
            have HB9 := Aside0.mk (below_step HB8.out hb9)
            have HCP := Aside0.mk hCP
            replace HCX := Aside0.mk (Kd.C_below HCX.out hb9)
            have hqX9 := hb9.size
            clear hCP hb9 c70 c71 HB8 HL7
            have c80 : w9.cell? ⟨g8, 0, none⟩ = some (.slice B1 3 j1) := (blk_cell (blk_below G8.out HB9.out) 0).trans rfl
            have c81 : w9.cell? ⟨g8, 1, none⟩ = some (.slice A8 P8.length c8) := (blk_cell (blk_below G8.out HB9.out) 1).trans rfl
            go_wp2_with fail
            refine (HL8.out good8 w9 HB9.out).mono ?_
            rintro e w10 ⟨qQ, rQ, rfl, hrQ, hqQ, hCQ, hb10⟩
            have HB10 := Aside0.mk (below_step HB9.out hb10)
            have HCQ := Aside0.mk hCQ
            replace HCX := Aside0.mk (Kd.C_below HCX.out hb10)
            replace HCP := Aside0.mk (Kd.C_below HCP.out hb10)
            have hqP9 := hb10.size
            clear hCQ hb10 c80 c81 HB9 HL8
            have c50 : w10.cell? ⟨g5, 0, none⟩ = some (.slice B1 3 j1) := (blk_cell (blk_below G5.out HB10.out) 0).trans rfl
            have c51 : w10.cell? ⟨g5, 1, none⟩ = some (.slice B2 chg.length j2) := (blk_cell (blk_below G5.out HB10.out) 1).trans rfl
            go_wp2_with fail
            refine (HL5.out w10 HB10.out).mono ?_
            rintro e w11 ⟨qA, rA, rfl, hrA, hqA, hCA, hb11⟩
            have HB11 := Aside0.mk (below_step HB10.out hb11)
            have HCA := Aside0.mk hCA
            replace HCX := Aside0.mk (Kd.C_below HCX.out hb11)
            replace HCP := Aside0.mk (Kd.C_below HCP.out hb11)
            replace HCQ := Aside0.mk (Kd.C_below HCQ.out hb11)
            have hqQ9 := hb11.size
            clear hCA hb11 c50 c51 HB10 HL5
            generalize lastN [] = fx at HCX IX HW
            generalize lastN P7 = fp at HCP IP HW
            generalize lastN P8 = fq at HCQ IQ HW
            have HWHO := Lib.hid (fun s hs X1 X2 y1 y2 W a b => who_last HG.out s hs X1 X2 y1 y2 W a b)
            generalize lastN chg = fa at HCA HW HWHO
            have MX := Lib.hid (fun W (hb : Below w11.heap.size w11 W) => lines_ok qX rX fx hrX W (Kd.C_below HCX.out hb))
            have MP := Lib.hid (fun W (hb : Below w11.heap.size w11 W) => lines_ok qP rP fp hrP W (Kd.C_below HCP.out hb))
            have MQ := Lib.hid (fun W (hb : Below w11.heap.size w11 W) => lines_ok qQ rQ fq hrQ W (Kd.C_below HCQ.out hb))
            have MM := Lib.hid (fun a b c d e f W x y z => merge3_ok a b c d e f fx fp fq IX.out IP.out IQ.out W x y z)
            have MM2 := Lib.hid (fun a b c d e f W x y z => merge3_ok a b c d e f fx fq fp IX.out IQ.out IP.out W x y z)
            rw [show (fun s => want (fx s) (fq s) (fp s)) = fun s => want (fx s) (fp s) (fq s) from funext fun s => want_comm _ _ _, dueK_comm fx fq fp 3] at MM2
            have hdl := dueK_length fx fp fq 3
            obtain ⟨due, hdue⟩ : ∃ l, l = dueK fx fp fq 3 := ⟨_, rfl⟩
            rw [← hdue] at MM MM2 hdl
            have HDUE := Aside0.mk hdue
            clear hdue
            go_wp2_with fail
            refine (MX.out w11 (Below.refl _ _)).mono ?_
            rintro e w12 ⟨u1, t1, rfl, hC1, hb12⟩
            go_wp2_with fail
            refine (MP.out w12 hb12).mono ?_
            rintro e w13 ⟨u2, t2, rfl, hC2, hb13⟩
            have hb13a := below_step hb12 hb13
            go_wp2_with fail
            refine (MQ.out w13 hb13a).mono ?_
            rintro e w14 ⟨u3, t3, rfl, hC3, hb14⟩
            have hb14a := below_step hb13a hb14
            go_wp2_with fail
            refine (MM.out u1 u2 u3 t1 t2 t3 w14 (Kd.C_below (Kd.C_below hC1 hb13) hb14) (Kd.C_below hC2 hb14) hC3).mono ?_
            rintro e w15 ⟨qL, rL, AD, nD, rfl, hqL, hnD, hCL, hCD, hb15⟩
            have HB15 := Aside0.mk (below_step hb14a hb15)
            have HCL := Aside0.mk hCL
            have HCD := Aside0.mk hCD
            clear hC1 hC2 hC3 hb12 hb13 hb14 hb13a hb14a hb15 hCL hCD MM
            go_wp2_with fail
            refine (MX.out w15 HB15.out).mono ?_
            rintro e w12 ⟨u1, t1, rfl, hC1, hb12⟩
            go_wp2_with fail
            refine (MQ.out w12 (below_step HB15.out hb12)).mono ?_
            rintro e w13 ⟨u2, t2, rfl, hC2, hb13⟩
            have hb13a := below_step hb12 hb13
            go_wp2_with fail
            refine (MP.out w13 (below_step HB15.out hb13a)).mono ?_
            rintro e w14 ⟨u3, t3, rfl, hC3, hb14⟩
            have hb14a := below_step hb13a hb14
            go_wp2_with fail
            refine (MM2.out u1 u2 u3 t1 t2 t3 w14 (Kd.C_below (Kd.C_below hC1 hb13) hb14) (Kd.C_below hC2 hb14) hC3).mono ?_
            rintro e w16 ⟨qK, rK, AE, nE, rfl, hqK, hnE, hCK, hCE, hb16⟩
            have hb16a := below_step hb14a hb16
            have HB16 := Aside0.mk (below_step HB15.out hb16a)
            have HCK := Aside0.mk hCK
            have HCE := Aside0.mk hCE
            replace HCL := Aside0.mk (Kd.C_below HCL.out hb16a)
            replace HCD := Aside0.mk (Kd.C_below HCD.out hb16a)
            have hsz16 := hb16a.size
            clear hC1 hC2 hC3 hb12 hb13 hb14 hb13a hb14a hb16 hb16a hCK hCE MM2 MX MP MQ HB15
            have MS := Lib.hid (fun W (hb : Below w16.heap.size w16 W) A1 c1 hc1 h1 => same_ok AD A1 nD c1 due (by omega) W (Kd.C_below HCD.out hb) hnD h1 hc1)
            go_wp2_with fail
            refine (MS.out w16 (Below.refl _ _) AE nE hnE HCE.out).mono ?_
            rintro e w17 ⟨rfl, hb17⟩
            have HB17 := Aside0.mk (below_step HB16.out hb17)
            have HBD := Aside0.mk hb17
            clear hb17 HCE
            have hs15 := HB17.out.size
            replace hqX : qX < w17.heap.size := by omega
            replace hqP : qP < w17.heap.size := by omega
            replace hqQ : qQ < w17.heap.size := by omega
            replace hqA : qA < w17.heap.size := by omega
            have hs17 := HBD.out.size
            replace hqL : qL < w17.heap.size := by omega
            replace hqK : qK < w17.heap.size := by omega
            replace HCX := Aside0.mk (Kd.C_below HCX.out HB17.out)
            replace HCP := Aside0.mk (Kd.C_below HCP.out HB17.out)
            replace HCQ := Aside0.mk (Kd.C_below HCQ.out HB17.out)
            replace HCA := Aside0.mk (Kd.C_below HCA.out HB17.out)
            replace HCL := Aside0.mk (Kd.C_below HCL.out HBD.out)
            replace HCK := Aside0.mk (Kd.C_below HCK.out HBD.out)
            have HB17w := Aside0.mk (below_step HB11.out HB17.out)
            replace G9 := Aside0.mk (blk_below G9.out HB17w.out)
            clear hqX9 hqP9 hqQ9 hsz16 hs15 hs17 HB16 IX IP IQ
            have HE := Aside0.mk (R_empty (Kd.int .i64) 3 w17 (fun _ => True) trivial)
            have HBE := Aside0.mk (below_alloc (Below.refl w17.heap.size w17) (.cells #[] 3))
            go_wp2_with fail
            go_loopw [33, 34, 35] (fun s33 s34 _ wr => ∃ m : Nat, m ≤ 3 ∧ s34 = .int .i64 m ∧ Aside0 ((Kd.int .i64).R 3 wr w17.heap.size (fun _ => True) s33 (dueK fx fp fq m)) ∧ Aside0 (Below w17.heap.size w17 wr)) (fun _ s34 _ _ => 3 - (intOf s34).toNat)
            case atStart => exact ⟨0, Nat.zero_le _, rfl, HE, HBE⟩
            case round =>
              clear HE HBE
              obtain ⟨m, hm, rfl, HD, HBr⟩ := hrel
              rename World => wr
              by_cases hlt : m < 3
              · have hltz : (m : Int) < 3 := by omega
                have hm0 : (0 : Int) ≤ (m : Int) := by omega
                obtain ⟨zX0, zX1⟩ := line_read HCX.out m hlt
                obtain ⟨zP0, zP1⟩ := line_read HCP.out m hlt
                obtain ⟨zQ0, zQ1⟩ := line_read HCQ.out m hlt
                obtain ⟨zA0, zA1⟩ := line_read HCA.out m hlt
                obtain ⟨zL0, zL1⟩ := line_read HCL.out m hlt
                obtain ⟨zK0, zK1⟩ := line_read HCK.out m hlt
                have z90 : w17.cell? ⟨g9, m * 2, none⟩ = some (.bool (hasSt P7 m)) := (blk_cell G9.out (m * 2)).trans (byA_at1 _ _ m hlt)
                have z91 : w17.cell? ⟨g9, m * 2 + 1, none⟩ = some (.bool (hasSt P8 m)) := (blk_cell G9.out (m * 2 + 1)).trans (byA_at2 _ _ m hlt)
                have hg9 : g9 < w17.heap.size := blk_lt G9.out
                have hw := HW.out m hlt
                have hdk := dueK_succ fx fp fq m
                have hdm := dueK_length fx fp fq m
                generalize fx m = x at zX0 zX1 zL1 zK1 hw hdk
                generalize fp m = p at zP0 zP1 zL1 zK1 hw hdk
                generalize fq m = q at zQ0 zQ1 zL1 zK1 hw hdk
                generalize fa m = a_ at zA0 zA1 hw
                generalize hasSt P7 m = f7 at z90 hw
                generalize hasSt P8 m = f8 at z91 hw
                have HDK := Aside0.mk hdk
                have HWW := Aside0.mk hw
                have hrs := HBr.out.size
                clear hdk hw
                have yX0 : wr.cell? ⟨qX, m * 2, none⟩ = some (.int .i64 m) := (HBr.out.cell (p := ⟨qX, m * 2, none⟩) hqX).trans zX0
                have yX1 : wr.cell? ⟨qX, m * 2 + 1, none⟩ = some (.string x) := (HBr.out.cell (p := ⟨qX, m * 2 + 1, none⟩) hqX).trans zX1
                have yP0 : wr.cell? ⟨qP, m * 2, none⟩ = some (.int .i64 m) := (HBr.out.cell (p := ⟨qP, m * 2, none⟩) hqP).trans zP0
                have yP1 : wr.cell? ⟨qP, m * 2 + 1, none⟩ = some (.string p) := (HBr.out.cell (p := ⟨qP, m * 2 + 1, none⟩) hqP).trans zP1
                have yQ0 : wr.cell? ⟨qQ, m * 2, none⟩ = some (.int .i64 m) := (HBr.out.cell (p := ⟨qQ, m * 2, none⟩) hqQ).trans zQ0
                have yQ1 : wr.cell? ⟨qQ, m * 2 + 1, none⟩ = some (.string q) := (HBr.out.cell (p := ⟨qQ, m * 2 + 1, none⟩) hqQ).trans zQ1
                go_upto_region 33 with fail
                have G35 := Aside0.mk (blk_new wr (.cells #[.int .i64 m, .string x] 48))
                have HBa := Aside0.mk (below_alloc HBr.out (.cells #[.int .i64 m, .string x] 48))
                have HDa := Aside0.mk (Kd.R_alloc HD.out (.cells #[.int .i64 m, .string x] 48))
                clear yX0 yX1 yP0 yP1 yQ0 yQ1
                generalize wr.alloc (.cells #[.int .i64 m, .string x] 48) = wa at G35 HBa HDa ⊢
                generalize wr.heap.size = g35 at G35 hrs ⊢
                clear HBr HD
                go_cut [242] from 223 to 242 (fun s242 wx => s242 = .bool (decide (p = q ∨ q = x)) ∧ Aside0 (Below wa.heap.size wa wx))
                case first =>
                  clear_value *
                  as_aux_lemma =>
                    have yX0 : wa.cell? ⟨qX, m * 2, none⟩ = some (.int .i64 m) := (HBa.out.cell (p := ⟨qX, m * 2, none⟩) hqX).trans zX0
                    have yX1 : wa.cell? ⟨qX, m * 2 + 1, none⟩ = some (.string x) := (HBa.out.cell (p := ⟨qX, m * 2 + 1, none⟩) hqX).trans zX1
                    have yP0 : wa.cell? ⟨qP, m * 2, none⟩ = some (.int .i64 m) := (HBa.out.cell (p := ⟨qP, m * 2, none⟩) hqP).trans zP0
                    have yP1 : wa.cell? ⟨qP, m * 2 + 1, none⟩ = some (.string p) := (HBa.out.cell (p := ⟨qP, m * 2 + 1, none⟩) hqP).trans zP1
                    have yQ0 : wa.cell? ⟨qQ, m * 2, none⟩ = some (.int .i64 m) := (HBa.out.cell (p := ⟨qQ, m * 2, none⟩) hqQ).trans zQ0
                    have yQ1 : wa.cell? ⟨qQ, m * 2 + 1, none⟩ = some (.string q) := (HBa.out.cell (p := ⟨qQ, m * 2 + 1, none⟩) hqQ).trans zQ1
                    by_cases h1 : p = q
                    · subst h1
                      have hd : decide (p = p ∨ p = x) = true := by simp
                      go_quiet (fail)
                      go_wp2_with fail
                      go_meet
                      exact ⟨congrArg Value.bool hd.symm, ⟨pw_below_drewN (Below.refl _ _) nq⟩⟩
                    · have hn1 := strNe h1
                      by_cases h2 : q = x
                      · subst h2
                        have hd : decide (p = q ∨ q = q) = true := by simp
                        go_quiet (fail)
                        go_wp2_with fail
                        go_meet
                        exact ⟨congrArg Value.bool hd.symm, ⟨pw_below_drewN (Below.refl _ _) nq⟩⟩
                      · have hn2 := strNe h2
                        have hd : decide (p = q ∨ q = x) = false := by simp [h1, h2]
                        go_quiet (fail)
                        go_wp2_with fail
                        go_meet
                        exact ⟨congrArg Value.bool hd.symm, ⟨pw_below_drewN (Below.refl _ _) nq⟩⟩
                case rest =>
                  obtain ⟨rfl, HBx⟩ := hcut
                  rename World => wx
                  have HBw := Aside0.mk (below_step HBa.out HBx.out)
                  replace G35 := Aside0.mk (blk_below G35.out HBx.out)
                  have HDx := Aside0.mk (Kd.R_below HDa.out HBx.out)
                  clear HBx HBa HDa
                  go_upto_if 242 with (fail)
                  generalize hbdq : decide (p = q ∨ q = x) = bd
                  go_cut [33] from 243 to 263 (fun s33 wy => Aside0 ((Kd.int .i64).R 3 wy w17.heap.size (fun _ => True) s33 (dueK fx fp fq (m + 1))) ∧ Aside0 (wy.heap[g35]? = some (.cells #[.int .i64 m, .string (want x p q)] 48 (0, 0))) ∧ Aside0 (Below w17.heap.size w17 wy))
                  case first =>
                    clear_value *
                    as_aux_lemma =>
                      have yP0 : wx.cell? ⟨qP, m * 2, none⟩ = some (.int .i64 m) := (HBw.out.cell (p := ⟨qP, m * 2, none⟩) hqP).trans zP0
                      have yP1 : wx.cell? ⟨qP, m * 2 + 1, none⟩ = some (.string p) := (HBw.out.cell (p := ⟨qP, m * 2 + 1, none⟩) hqP).trans zP1
                      have yQ0 : wx.cell? ⟨qQ, m * 2, none⟩ = some (.int .i64 m) := (HBw.out.cell (p := ⟨qQ, m * 2, none⟩) hqQ).trans zQ0
                      have yQ1 : wx.cell? ⟨qQ, m * 2 + 1, none⟩ = some (.string q) := (HBw.out.cell (p := ⟨qQ, m * 2 + 1, none⟩) hqQ).trans zQ1
                      have yX0 : wx.cell? ⟨qX, m * 2, none⟩ = some (.int .i64 m) := (HBw.out.cell (p := ⟨qX, m * 2, none⟩) hqX).trans zX0
                      have yX1 : wx.cell? ⟨qX, m * 2 + 1, none⟩ = some (.string x) := (HBw.out.cell (p := ⟨qX, m * 2 + 1, none⟩) hqX).trans zX1
                      have c0 : wx.cell? ⟨g35, 0, none⟩ = some (.int .i64 m) := (blk_cell G35.out 0).trans rfl
                      have c1 : wx.cell? ⟨g35, 1, none⟩ = some (.string x) := (blk_cell G35.out 1).trans rfl
                      have f0 := blk_frozen G35.out 0
                      have f1 := blk_frozen G35.out 1
                      by_cases h12 : p = q ∨ q = x
                      · obtain rfl : bd = true := hbdq.symm.trans (decide_eq_true h12)
                        clear hbdq
                        have hwn : want x p q = p := by unfold want; rw [if_pos h12]
                        have hwc : wantC x p q = false := by unfold wantC; simp [h12]
                        have GN := blk_put (blk_put G35.out 0 (.int .i64 m) rfl) 1 (.string p) rfl
                        have RN := Kd.R_set (Kd.R_set HDx.out G35.out (by decide) 0 (.int .i64 m)) (blk_put G35.out 0 (.int .i64 m) rfl) (by decide) 1 (.string p)
                        have BN := below_set (below_set (g := g35) (j := 0) (v := .int .i64 m) HBw.out hrs) (g := g35) (j := 1) (v := .string p) hrs
                        go_wp2_with fail
                        go_meet
                        exact ⟨⟨by rw [HDK.out, hwc, if_neg Bool.false_ne_true, List.append_nil]; exact RN⟩, ⟨by rw [hwn]; exact GN⟩, ⟨BN⟩⟩
                      · obtain rfl : bd = false := hbdq.symm.trans (decide_eq_false h12)
                        clear hbdq
                        go_upto_region 35 with fail
                        by_cases h3 : p = x
                        · subst h3
                          have hwn : want p p q = q := by unfold want; rw [if_neg h12, if_pos rfl]
                          have hwc : wantC p p q = false := by unfold wantC; simp
                          go_quiet (fail)
                          have hbz := pw_below_drewN (Below.refl wx.heap.size wx) nq
                          have HBz := Aside0.mk (below_step HBw.out hbz)
                          have Gz := Aside0.mk (blk_below G35.out hbz)
                          have Hz := Aside0.mk (Kd.R_below HDx.out hbz)
                          generalize wx.drewN nq = wz at HBz Gz Hz ⊢
                          clear hbz yP0 yP1 yQ0 yQ1 yX0 yX1 c0 c1 f0 f1
                          have yQ0 : wz.cell? ⟨qQ, m * 2, none⟩ = some (.int .i64 m) := (HBz.out.cell (p := ⟨qQ, m * 2, none⟩) hqQ).trans zQ0
                          have yQ1 : wz.cell? ⟨qQ, m * 2 + 1, none⟩ = some (.string q) := (HBz.out.cell (p := ⟨qQ, m * 2 + 1, none⟩) hqQ).trans zQ1
                          have c0 : wz.cell? ⟨g35, 0, none⟩ = some (.int .i64 m) := (blk_cell Gz.out 0).trans rfl
                          have c1 : wz.cell? ⟨g35, 1, none⟩ = some (.string p) := (blk_cell Gz.out 1).trans rfl
                          have f0 := blk_frozen Gz.out 0
                          have f1 := blk_frozen Gz.out 1
                          have GN := blk_put (blk_put Gz.out 0 (.int .i64 m) rfl) 1 (.string q) rfl
                          have RN := Kd.R_set (Kd.R_set Hz.out Gz.out (by decide) 0 (.int .i64 m)) (blk_put Gz.out 0 (.int .i64 m) rfl) (by decide) 1 (.string q)
                          have BN := below_set (below_set (g := g35) (j := 0) (v := .int .i64 m) HBz.out hrs) (g := g35) (j := 1) (v := .string q) hrs
                          go_wp2_with fail
                          go_meet
                          exact ⟨⟨by rw [HDK.out, hwc, if_neg Bool.false_ne_true, List.append_nil]; exact RN⟩, ⟨by rw [hwn]; exact GN⟩, ⟨BN⟩⟩
                        · have hn3 := strNe h3
                          have hwn : want x p q = x := by unfold want; rw [if_neg h12, if_neg h3]
                          have hwc : wantC x p q = true := by unfold wantC; simp [h12, h3]
                          go_quiet (fail)
                          have hbz := pw_below_drewN (Below.refl wx.heap.size wx) nq
                          have HBz := Aside0.mk (below_step HBw.out hbz)
                          have Gz := Aside0.mk (blk_below G35.out hbz)
                          have Hz := Aside0.mk (Kd.R_below HDx.out hbz)
                          generalize wx.drewN nq = wz at HBz Gz Hz ⊢
                          clear hbz yP0 yP1 yQ0 yQ1 yX0 yX1 c0 c1 f0 f1
                          have hz17 := HBz.out.size
                          go_wp2_with (at_builtin; refine Kd.R_append (Kd.int .i64) (w0 := w17) w17.heap.size rfl (.tmp 260) (.tmp 262) 34 3 (.int .i64 0) 8 rfl Try.underlying34 infoInt rfl (by decide) (by decide) u33 (dueK fx fp fq m) (m : Int) [.int .i64 m] (fun _ => True) (fun _ => False) rfl rfl rfl (fun _ hk => hk.elim) (fun _ _ => trivial) Hz.out HBz.out hz17 (by omega) ?_; intro v9 w9 hv9 hb9 hg9_ _; have HV9 := Aside0.mk hv9; have HB9 := Aside0.mk hb9; have GV9 := Aside0.mk (blk_grown Gz.out hg9_ (Kd.R_ne Hz.out Gz.out (by decide))); clear hv9 hb9 hg9_)
                          go_meet
                          exact ⟨⟨by rw [HDK.out, hwc, if_pos rfl]; exact HV9.out⟩, ⟨by rw [hwn]; exact GV9.out⟩, HB9⟩
                  case rest =>
                    obtain ⟨HDy, G35y, HBy⟩ := hcut
                    rename World => wy
                    clear HDx HBw G35 HDK hbdq
                    generalize want x p q = wn at G35y zL1 zK1 HWW
                    go_upto_region 38 with fail
                    go_cut [277] from 264 to 277 (fun s277 wx => s277 = .bool false ∧ Aside0 (Below wy.heap.size wy wx))
                    case first =>
                      clear_value *
                      as_aux_lemma =>
                        have yL0 : wy.cell? ⟨qL, m * 2, none⟩ = some (.int .i64 m) := (HBy.out.cell (p := ⟨qL, m * 2, none⟩) hqL).trans zL0
                        have yL1 : wy.cell? ⟨qL, m * 2 + 1, none⟩ = some (.string wn) := (HBy.out.cell (p := ⟨qL, m * 2 + 1, none⟩) hqL).trans zL1
                        have yK0 : wy.cell? ⟨qK, m * 2, none⟩ = some (.int .i64 m) := (HBy.out.cell (p := ⟨qK, m * 2, none⟩) hqK).trans zK0
                        have yK1 : wy.cell? ⟨qK, m * 2 + 1, none⟩ = some (.string wn) := (HBy.out.cell (p := ⟨qK, m * 2 + 1, none⟩) hqK).trans zK1
                        have c0 : wy.cell? ⟨g35, 0, none⟩ = some (.int .i64 m) := (blk_cell G35y.out 0).trans rfl
                        have c1 : wy.cell? ⟨g35, 1, none⟩ = some (.string wn) := (blk_cell G35y.out 1).trans rfl
                        go_quiet (fail)
                        go_wp2_with fail
                        go_meet
                        exact ⟨rfl, ⟨pw_below_drewN (Below.refl _ _) nq⟩⟩
                    case rest =>
                      obtain ⟨rfl, hbz⟩ := hcut
                      rename World => wz
                      have HBz := Aside0.mk (below_step HBy.out hbz.out)
                      have Gz := Aside0.mk (blk_below G35y.out hbz.out)
                      have Hz := Aside0.mk (Kd.R_below HDy.out hbz.out)
                      clear hbz HBy G35y HDy
                      have y90 := (HBz.out.cell (p := ⟨g9, m * 2, none⟩) hg9).trans z90
                      have y91 := (HBz.out.cell (p := ⟨g9, m * 2 + 1, none⟩) hg9).trans z91
                      have yA0 : wz.cell? ⟨qA, m * 2, none⟩ = some (.int .i64 m) := (HBz.out.cell (p := ⟨qA, m * 2, none⟩) hqA).trans zA0
                      have yA1 : wz.cell? ⟨qA, m * 2 + 1, none⟩ = some (.string a_) := (HBz.out.cell (p := ⟨qA, m * 2 + 1, none⟩) hqA).trans zA1
                      have c0 : wz.cell? ⟨g35, 0, none⟩ = some (.int .i64 m) := (blk_cell Gz.out 0).trans rfl
                      have c1 : wz.cell? ⟨g35, 1, none⟩ = some (.string wn) := (blk_cell Gz.out 1).trans rfl
                      by_cases h78 : f7 = true ∧ f8 = true
                      · obtain ⟨rfl, rfl⟩ := h78
                        go_wp2_with fail
                        go_roundw
                        case rel => exact ⟨m + 1, by omega, by go_num, Hz, HBz⟩
                        case measure => simp [intOf]; omega
                      · have hfa : f7 = false ∨ f8 = false := by
                          cases f7
                          · exact .inl rfl
                          · cases f8
                            · exact .inr rfl
                            · exact absurd ⟨rfl, rfl⟩ h78
                        have hwa := (HWW.out hfa).1
                        subst hwa
                        have hcs : (f7 = false) ∨ (f7 = true ∧ f8 = false) := by
                          cases f7
                          · exact .inl rfl
                          · exact .inr ⟨rfl, by rcases hfa with h | h; cases h; exact h⟩
                        clear h78 hfa
                        rcases hcs with rfl | ⟨rfl, rfl⟩
                        all_goals
                          go_upto_region 41 with fail
                          go_quiet (fail)
                          go_wp2_with fail
                          go_roundw
                          case rel => exact ⟨m + 1, by omega, by go_num, ⟨Kd.R_below Hz.out (pw_below_drewN (Below.refl _ _) nq)⟩, ⟨pw_below_drewN HBz.out nq⟩⟩
                          case measure => simp [intOf]; omega
              · obtain rfl : m = 3 := by omega
                have hltz : ¬ ((3 : Nat) : Int) < 3 := by omega
                have hD := HD.out
                rw [← HDUE.out] at hD
                obtain ⟨A33, c33, rfl⟩ := Kd.R_slice hD
                obtain ⟨_, hc33, hC33⟩ := Kd.R_reads' hD
                clear hD HD
                go_wp2_with fail
                refine (MS.out wr (below_step HBD.out HBr.out) A33 c33 hc33 hC33).mono ?_
                rintro e w18 ⟨rfl, hb18⟩
                have HB18 := Aside0.mk (below_step HBr.out hb18)
                clear hb18 hC33 hc33 HBr MS HBD HCX HCP HCQ HCA HCK
                go_wp2_with fail
                go_loopw [36] (fun s36 wr => ∃ m : Nat, m ≤ 3 ∧ s36 = .int .i64 m ∧ Aside0 (∀ j, j < m → hasSt P7 j = false ∨ hasSt P8 j = false) ∧ Aside0 (Below w18.heap.size w18 wr)) (fun s36 _ => 3 - (intOf s36).toNat)
                case atStart => exact ⟨0, Nat.zero_le _, rfl, ⟨fun j hj => by omega⟩, ⟨Below.refl _ _⟩⟩
                case round =>
                  obtain ⟨m, hm, rfl, HNB, HBr⟩ := hrel
                  rename World => wr
                  by_cases hlt : m < 3
                  · have hltz : (m : Int) < 3 := by omega
                    have hm0 : (0 : Int) ≤ (m : Int) := by omega
                    have hg9 : g9 < w17.heap.size := blk_lt G9.out
                    have y90 : wr.cell? ⟨g9, m * 2, none⟩ = some (.bool (hasSt P7 m)) := ((below_step HB18.out HBr.out).cell (p := ⟨g9, m * 2, none⟩) hg9).trans ((blk_cell G9.out (m * 2)).trans (byA_at1 _ _ m hlt))
                    have y91 : wr.cell? ⟨g9, m * 2 + 1, none⟩ = some (.bool (hasSt P8 m)) := ((below_step HB18.out HBr.out).cell (p := ⟨g9, m * 2 + 1, none⟩) hg9).trans ((blk_cell G9.out (m * 2 + 1)).trans (byA_at2 _ _ m hlt))
                    have HNS : Aside0 ((hasSt P7 m = false ∨ hasSt P8 m = false) → ∀ j, j < m + 1 → hasSt P7 j = false ∨ hasSt P8 j = false) := ⟨fun h j hj => by
                      rcases Nat.lt_or_ge j m with h1 | h1
                      · exact HNB.out j h1
                      · obtain rfl : j = m := by omega
                        exact h⟩
                    generalize hasSt P7 m = f7 at y90 HNS
                    generalize hasSt P8 m = f8 at y91 HNS
                    cases f7
                    · go_wp2_with fail
                      go_roundw
                      case rel => exact ⟨m + 1, by omega, by go_num, ⟨HNS.out (.inl rfl)⟩, HBr⟩
                      case measure => simp [intOf]; omega
                    · cases f8
                      · go_wp2_with fail
                        go_roundw
                        case rel => exact ⟨m + 1, by omega, by go_num, ⟨HNS.out (.inr rfl)⟩, HBr⟩
                        case measure => simp [intOf]; omega
                      · go_wp2_with fail
                        refine (irisKnown13_ok wr).mono ?_
                        rintro e w19 ⟨rfl, hb19⟩
                        go_wp2
                        go_ret
                        exact ⟨rfl, below_step HB1o.out (below_step HB17w.out (below_step HB18.out (below_step HBr.out hb19)))⟩
                  · obtain rfl : m = 3 := by omega
                    have hltz : ¬ ((3 : Nat) : Int) < 3 := by omega
                    obtain rfl : due = [] := HDUE.out.trans (dueK_nil fx fp fq 3 (fun s hs => (HW.out s hs (HNB.out s hs)).2))
                    have HLF : Aside0 (∀ s, s < 3 → want (fx s) (fp s) (fq s) = fa s) := ⟨fun s hs => (HW.out s hs (HNB.out s hs)).1⟩
                    have HBs := Aside0.mk (below_step HB17w.out (below_step HB18.out HBr.out))
                    have HBt := Aside0.mk (below_step HB18.out HBr.out)
                    clear HNB HW HDUE HCD HB18 HB17w HBr
                    go_wp2_with fail
                    go_loopw [37, 38, 39] (fun s37 _ _ wr2 => ∃ m : Nat, m ≤ 3 ∧ s37 = .int .i64 m ∧ Aside0 (Below wr.heap.size wr wr2)) (fun s37 _ _ _ => 3 - (intOf s37).toNat)
                    case atStart => exact ⟨0, Nat.zero_le _, rfl, ⟨Below.refl _ _⟩⟩
                    case round =>
                      obtain ⟨m, hm, rfl, HBi⟩ := hrel
                      rename World => wi
                      by_cases hlt : m < 3
                      · have hltz : (m : Int) < 3 := by omega
                        have hm0 : (0 : Int) ≤ (m : Int) := by omega
                        have HBo2 := Aside0.mk (below_step HBs.out HBi.out)
                        have yL1 : wi.cell? ⟨qL, m * 2 + 1, none⟩ = some (.string (want (fx m) (fp m) (fq m))) := ((below_step HBt.out HBi.out).cell (p := ⟨qL, m * 2 + 1, none⟩) hqL).trans (line_read HCL.out m hlt).2
                        have hqLi : qL < wi.heap.size := Nat.lt_of_lt_of_le hqL (below_step HBt.out HBi.out).size
                        rw [HLF.out m hlt] at yL1
                        have c50 : wi.cell? ⟨g5, 0, none⟩ = some (.slice B1 3 j1) := (blk_cell (blk_below G5.out HBo2.out) 0).trans rfl
                        have c51 : wi.cell? ⟨g5, 1, none⟩ = some (.slice B2 chg.length j2) := (blk_cell (blk_below G5.out HBo2.out) 1).trans rfl
                        have hg5 : g5 < wi.heap.size := blk_lt (blk_below G5.out HBo2.out)
                        have HWH := Lib.hid (fun X1 X2 y1 y2 W a b => HWHO.out m hlt X1 X2 y1 y2 W a b)
                        generalize fa m = nm at yL1 HWH
                        go_upto_region 53 with fail
                        go_cut [38, 39] from 319 to 329 (fun s38 s39 wx => s38 = .int .i64 m ∧ s39 = .int .i64 0 ∧ Aside0 (Below wi.heap.size wi wx))
                        case first =>
                          clear_value *
                          as_aux_lemma =>
                            refine start_ (n := 13) (S := fun w' => True) (ds := []) #[false, false, false, false, false, false, false, false, false, false, false, false, false] (by kernel_rfl) rfl rfl trivial (fun hHeld => ?_)
                            refine with_tabW clerks.tab53 clerks.bits53 (fun HT_ HW_ => ?_)
                            have FB := Aside0.mk (below_drew (Below.refl wi.heap.size wi))
                            generalize wi.drew = w8 at FB ⊢
                            refine inv_at [0, 1, 2, 3, 4, 5, 6, 7, 8, 9, 10, 11, 12] (fun a0_ b a w' => ∃ (D1_ : Option Addr) (k1_ : Nat) (D2_ : Option Addr) (k2_ : Nat) (m1_ : Value), a = putSel a0_ b [(0, 320, .agg #[.slice B1 3 j1, .slice B2 chg.length j2]), (1, 321, m1_), (2, 322, .slice (some ⟨qL, 0, none⟩) 3 rL), (3, 323, .int .i64 m), (4, 324, .pointer (some ⟨qL, m * 2, none⟩)), (5, 325, .pointer (some ⟨qL, m * 2 + 1, none⟩)), (6, 326, .string nm), (7, 327, .tuple #[.int .i64 m, .int .i64 0]), (8, 319, .tuple #[.int .i64 m, .int .i64 0]), (9, 328, .int .i64 m), (10, 329, .int .i64 0), (11, 38, .int .i64 m), (12, 39, .int .i64 0)] ∧ (Below wi.heap.size wi w') ∧ (b 1 = true → Kd.string.C w' D1_ 3 first3) ∧ (b 1 = true → k32.C w' D2_ chg.length chg) ∧ (b 1 = true → (m1_ : Value) = .agg #[.slice D1_ 3 k1_, .slice D2_ chg.length k2_])) HT_.out HW_.out (by kernel_rfl) (by kernel_rfl) ?_ ?_ ?_
                            · exact ⟨none, 0, none, 0, .bool false, by simp only [putSel, Bool.false_eq_true, if_false], FB.out, fun h_ => absurd h_ (by decide), fun h_ => absurd h_ (by decide), fun h_ => absurd h_ (by decide)⟩
                            · skip
                              clear FB
                              refine steps_cons ?_ ?_
                              · rintro b a w' ⟨D1_, k1_, D2_, k2_, m1_, ha, Q_FB, Q_S1, Q_S2, Q_X1_⟩ hb_ hon hoff
                                refine ⟨_, rfl, fun K hK => ?_⟩
                                have e5 : a.tmps[5]? = some (.pointer (some ⟨g5, 0, none⟩)) := by rw [ha]; exact (putSel_off rfl).trans rfl
                                replace ha := Aside0.mk ha
                                have FB := Aside0.mk Q_FB
                                have x0_ := (FB.out.cell (p := ⟨g5, 0, none⟩) hg5).trans c50
                                have x1_ := (FB.out.cell (p := ⟨g5, 1, none⟩) hg5).trans c51
                                refine value_ (w1 := w') (v := .agg #[.slice B1 3 j1, .slice B2 chg.length j2]) (by rfl) rfl ?_ ?_
                                · go_simp
                                  (try simp only [i64_w])
                                  try rfl
                                refine hK.out _ _ ⟨D1_, k1_, D2_, k2_, m1_, (by rw [ha.out]; exact putSel_upk 0 hb_ rfl rfl rfl), Q_FB, fun h0_ => absurd ((hoff 1 (by kernel_rfl)).symm.trans h0_) (by decide), fun h0_ => absurd ((hoff 1 (by kernel_rfl)).symm.trans h0_) (by decide), fun h0_ => absurd ((hoff 1 (by kernel_rfl)).symm.trans h0_) (by decide)⟩
                              refine steps_cons ?_ ?_
                              · rintro b a w' ⟨D1_, k1_, D2_, k2_, m1_, ha, Q_FB, Q_S1, Q_S2, Q_X1_⟩ hb_ hon hoff
                                refine ⟨_, rfl, fun K hK => ?_⟩
                                have e320 : a.tmps[320]? = some (.agg #[.slice B1 3 j1, .slice B2 chg.length j2]) := by rw [ha]; exact putSel_on (e := (0, 320, .agg #[.slice B1 3 j1, .slice B2 chg.length j2])) 0 rfl rfl (hon 0 (by kernel_rfl)) rfl
                                replace ha := Aside0.mk ha
                                have FB := Aside0.mk Q_FB
                                refine goes_ Try.func6 (by kernel_rfl) rfl #[.agg #[.slice B1 3 j1, .slice B2 chg.length j2]] (by rfl) rfl rfl (by first | rfl | (simp [Act.eval, e320]; done)) ?_
                                refine (HST5.out w' (below_step HBo2.out FB.out)).mono ?_
                                rintro e w2_ ⟨X1, X2, y1, y2, rfl, _, _, hs1, hs2, hbN⟩
                                refine ⟨_, rfl, ?_⟩
                                refine hK.out _ _ ⟨X1, y1, X2, y2, (.agg #[.slice X1 3 y1, .slice X2 chg.length y2]), (by rw [ha.out]; exact putSel_upk 1 hb_ rfl rfl rfl), FB.out.trans (hbN.mono FB.out.size), fun _ => hs1, fun _ => hs2, fun _ => rfl⟩
                              refine steps_cons ?_ ?_
                              · rintro b a w' ⟨D1_, k1_, D2_, k2_, m1_, ha, Q_FB, Q_S1, Q_S2, Q_X1_⟩ hb_ hon hoff
                                refine ⟨_, rfl, fun K hK => ?_⟩
                                have e29 : a.tmps[29]? = some (.slice (some ⟨qL, 0, none⟩) 3 rL) := by rw [ha]; exact (putSel_off rfl).trans rfl
                                replace ha := Aside0.mk ha
                                have FB := Aside0.mk Q_FB
                                refine value_ (w1 := w') (v := .slice (some ⟨qL, 0, none⟩) 3 rL) (by rfl) rfl ?_ ?_
                                · go_simp
                                  (try simp only [i64_w])
                                  try rfl
                                refine hK.out _ _ ⟨D1_, k1_, D2_, k2_, m1_, (by rw [ha.out]; exact putSel_upk 2 hb_ rfl rfl rfl), Q_FB, Q_S1, Q_S2, Q_X1_⟩
                              refine steps_cons ?_ ?_
                              · rintro b a w' ⟨D1_, k1_, D2_, k2_, m1_, ha, Q_FB, Q_S1, Q_S2, Q_X1_⟩ hb_ hon hoff
                                refine ⟨_, rfl, fun K hK => ?_⟩
                                have e37 : a.tmps[37]? = some (.int .i64 m) := by rw [ha]; exact (putSel_off rfl).trans rfl
                                replace ha := Aside0.mk ha
                                have FB := Aside0.mk Q_FB
                                refine value_ (w1 := w') (v := .int .i64 m) (by rfl) rfl ?_ ?_
                                · go_simp
                                  (try simp only [i64_w])
                                  try rfl
                                refine hK.out _ _ ⟨D1_, k1_, D2_, k2_, m1_, (by rw [ha.out]; exact putSel_upk 3 hb_ rfl rfl rfl), Q_FB, Q_S1, Q_S2, Q_X1_⟩
                              refine steps_cons ?_ ?_
                              · rintro b a w' ⟨D1_, k1_, D2_, k2_, m1_, ha, Q_FB, Q_S1, Q_S2, Q_X1_⟩ hb_ hon hoff
                                refine ⟨_, rfl, fun K hK => ?_⟩
                                have e322 : a.tmps[322]? = some (.slice (some ⟨qL, 0, none⟩) 3 rL) := by rw [ha]; exact putSel_on (e := (2, 322, .slice (some ⟨qL, 0, none⟩) 3 rL)) 2 rfl rfl (hon 2 (by kernel_rfl)) rfl
                                have e323 : a.tmps[323]? = some (.int .i64 m) := by rw [ha]; exact putSel_on (e := (3, 323, .int .i64 m)) 3 rfl rfl (hon 3 (by kernel_rfl)) rfl
                                replace ha := Aside0.mk ha
                                have FB := Aside0.mk Q_FB
                                refine value_ (w1 := w') (v := .pointer (some ⟨qL, m * 2, none⟩)) (by rfl) rfl ?_ ?_
                                · go_simp
                                  (try simp only [i64_w])
                                  try rfl
                                refine hK.out _ _ ⟨D1_, k1_, D2_, k2_, m1_, (by rw [ha.out]; exact putSel_upk 4 hb_ rfl rfl rfl), Q_FB, Q_S1, Q_S2, Q_X1_⟩
                              refine steps_cons ?_ ?_
                              · rintro b a w' ⟨D1_, k1_, D2_, k2_, m1_, ha, Q_FB, Q_S1, Q_S2, Q_X1_⟩ hb_ hon hoff
                                refine ⟨_, rfl, fun K hK => ?_⟩
                                have e324 : a.tmps[324]? = some (.pointer (some ⟨qL, m * 2, none⟩)) := by rw [ha]; exact putSel_on (e := (4, 324, .pointer (some ⟨qL, m * 2, none⟩))) 4 rfl rfl (hon 4 (by kernel_rfl)) rfl
                                replace ha := Aside0.mk ha
                                have FB := Aside0.mk Q_FB
                                refine value_ (w1 := w') (v := .pointer (some ⟨qL, m * 2 + 1, none⟩)) (by rfl) rfl ?_ ?_
                                · go_simp
                                  (try simp only [i64_w])
                                  try rfl
                                refine hK.out _ _ ⟨D1_, k1_, D2_, k2_, m1_, (by rw [ha.out]; exact putSel_upk 5 hb_ rfl rfl rfl), Q_FB, Q_S1, Q_S2, Q_X1_⟩
                              refine steps_cons ?_ ?_
                              · rintro b a w' ⟨D1_, k1_, D2_, k2_, m1_, ha, Q_FB, Q_S1, Q_S2, Q_X1_⟩ hb_ hon hoff
                                refine ⟨_, rfl, fun K hK => ?_⟩
                                have e325 : a.tmps[325]? = some (.pointer (some ⟨qL, m * 2 + 1, none⟩)) := by rw [ha]; exact putSel_on (e := (5, 325, .pointer (some ⟨qL, m * 2 + 1, none⟩))) 5 rfl rfl (hon 5 (by kernel_rfl)) rfl
                                replace ha := Aside0.mk ha
                                have FB := Aside0.mk Q_FB
                                have x1_ := (FB.out.cell (p := ⟨qL, m * 2 + 1, none⟩) hqLi).trans yL1
                                refine value_ (w1 := w') (v := .string nm) (by rfl) rfl ?_ ?_
                                · go_simp
                                  (try simp only [i64_w])
                                  try rfl
                                refine hK.out _ _ ⟨D1_, k1_, D2_, k2_, m1_, (by rw [ha.out]; exact putSel_upk 6 hb_ rfl rfl rfl), Q_FB, Q_S1, Q_S2, Q_X1_⟩
                              refine steps_cons ?_ ?_
                              · rintro b a w' ⟨D1_, k1_, D2_, k2_, m1_, ha, Q_FB, Q_S1, Q_S2, Q_X1_⟩ hb_ hon hoff
                                refine ⟨_, rfl, fun K hK => ?_⟩
                                have e321 : a.tmps[321]? = some (m1_) := by rw [ha]; exact putSel_on (e := (1, 321, m1_)) 1 rfl rfl (hon 1 (by kernel_rfl)) rfl
                                rw [Q_X1_ (hon 1 (by kernel_rfl))] at e321
                                have e326 : a.tmps[326]? = some (.string nm) := by rw [ha]; exact putSel_on (e := (6, 326, .string nm)) 6 rfl rfl (hon 6 (by kernel_rfl)) rfl
                                replace ha := Aside0.mk ha
                                have FB := Aside0.mk Q_FB
                                have S1 := Aside0.mk (Q_S1 (hon 1 (by kernel_rfl)))
                                have S2 := Aside0.mk (Q_S2 (hon 1 (by kernel_rfl)))
                                refine goes_ Try.func12 (by kernel_rfl) rfl #[.agg #[.slice D1_ 3 k1_, .slice D2_ chg.length k2_], .string nm, .int .i64 1000] (by rfl) rfl rfl (by first | rfl | (simp [Act.eval, e321, e326]; done)) ?_
                                refine (HWH.out D1_ D2_ k1_ k2_ w' S1.out S2.out).mono ?_
                                rintro e w2_ ⟨rfl, hbN⟩
                                refine ⟨_, rfl, ?_⟩
                                refine hK.out _ _ ⟨D1_, k1_, D2_, k2_, m1_, (by rw [ha.out]; exact putSel_upk 7 hb_ rfl rfl rfl), FB.out.trans (hbN.mono FB.out.size), fun _ => Kd.C_below S1.out hbN, fun _ => Kd.C_below S2.out hbN, Q_X1_⟩
                              refine steps_cons ?_ ?_
                              · rintro b a w' ⟨D1_, k1_, D2_, k2_, m1_, ha, Q_FB, Q_S1, Q_S2, Q_X1_⟩ hb_ hon hoff
                                refine ⟨_, rfl, fun K hK => ?_⟩
                                have e327 : a.tmps[327]? = some (.tuple #[.int .i64 m, .int .i64 0]) := by rw [ha]; exact putSel_on (e := (7, 327, .tuple #[.int .i64 m, .int .i64 0])) 7 rfl rfl (hon 7 (by kernel_rfl)) rfl
                                replace ha := Aside0.mk ha
                                have FB := Aside0.mk Q_FB
                                have S1 := Aside0.mk (Q_S1 (hon 1 (by kernel_rfl)))
                                have S2 := Aside0.mk (Q_S2 (hon 1 (by kernel_rfl)))
                                refine value_ (w1 := w') (v := .tuple #[.int .i64 m, .int .i64 0]) (by rfl) rfl ?_ ?_
                                · go_simp
                                  (try simp only [i64_w])
                                  try rfl
                                refine hK.out _ _ ⟨D1_, k1_, D2_, k2_, m1_, (by rw [ha.out]; exact putSel_upk 8 hb_ rfl rfl rfl), Q_FB, Q_S1, Q_S2, Q_X1_⟩
                              refine steps_cons ?_ ?_
                              · rintro b a w' ⟨D1_, k1_, D2_, k2_, m1_, ha, Q_FB, Q_S1, Q_S2, Q_X1_⟩ hb_ hon hoff
                                refine ⟨_, rfl, fun K hK => ?_⟩
                                have e319 : a.tmps[319]? = some (.tuple #[.int .i64 m, .int .i64 0]) := by rw [ha]; exact putSel_on (e := (8, 319, .tuple #[.int .i64 m, .int .i64 0])) 8 rfl rfl (hon 8 (by kernel_rfl)) rfl
                                replace ha := Aside0.mk ha
                                have FB := Aside0.mk Q_FB
                                have S1 := Aside0.mk (Q_S1 (hon 1 (by kernel_rfl)))
                                have S2 := Aside0.mk (Q_S2 (hon 1 (by kernel_rfl)))
                                refine value_ (w1 := w') (v := .int .i64 m) (by rfl) rfl ?_ ?_
                                · go_simp
                                  (try simp only [i64_w])
                                  try rfl
                                refine hK.out _ _ ⟨D1_, k1_, D2_, k2_, m1_, (by rw [ha.out]; exact putSel_upk 9 hb_ rfl rfl rfl), Q_FB, Q_S1, Q_S2, Q_X1_⟩
                              refine steps_cons ?_ ?_
                              · rintro b a w' ⟨D1_, k1_, D2_, k2_, m1_, ha, Q_FB, Q_S1, Q_S2, Q_X1_⟩ hb_ hon hoff
                                refine ⟨_, rfl, fun K hK => ?_⟩
                                have e319 : a.tmps[319]? = some (.tuple #[.int .i64 m, .int .i64 0]) := by rw [ha]; exact putSel_on (e := (8, 319, .tuple #[.int .i64 m, .int .i64 0])) 8 rfl rfl (hon 8 (by kernel_rfl)) rfl
                                replace ha := Aside0.mk ha
                                have FB := Aside0.mk Q_FB
                                have S1 := Aside0.mk (Q_S1 (hon 1 (by kernel_rfl)))
                                have S2 := Aside0.mk (Q_S2 (hon 1 (by kernel_rfl)))
                                refine value_ (w1 := w') (v := .int .i64 0) (by rfl) rfl ?_ ?_
                                · go_simp
                                  (try simp only [i64_w])
                                  try rfl
                                refine hK.out _ _ ⟨D1_, k1_, D2_, k2_, m1_, (by rw [ha.out]; exact putSel_upk 10 hb_ rfl rfl rfl), Q_FB, Q_S1, Q_S2, Q_X1_⟩
                              refine steps_cons ?_ ?_
                              · rintro b a w' ⟨D1_, k1_, D2_, k2_, m1_, ha, Q_FB, Q_S1, Q_S2, Q_X1_⟩ hb_ hon hoff
                                refine ⟨_, rfl, fun K hK => ?_⟩
                                have e328 : a.tmps[328]? = some (.int .i64 m) := by rw [ha]; exact putSel_on (e := (9, 328, .int .i64 m)) 9 rfl rfl (hon 9 (by kernel_rfl)) rfl
                                replace ha := Aside0.mk ha
                                have FB := Aside0.mk Q_FB
                                have S1 := Aside0.mk (Q_S1 (hon 1 (by kernel_rfl)))
                                have S2 := Aside0.mk (Q_S2 (hon 1 (by kernel_rfl)))
                                refine value_ (w1 := w') (v := .int .i64 m) (by rfl) rfl ?_ ?_
                                · go_simp
                                  (try simp only [i64_w])
                                  try rfl
                                refine hK.out _ _ ⟨D1_, k1_, D2_, k2_, m1_, (by rw [ha.out]; exact putSel_upk 11 hb_ rfl rfl rfl), Q_FB, Q_S1, Q_S2, Q_X1_⟩
                              refine steps_cons ?_ ?_
                              · rintro b a w' ⟨D1_, k1_, D2_, k2_, m1_, ha, Q_FB, Q_S1, Q_S2, Q_X1_⟩ hb_ hon hoff
                                refine ⟨_, rfl, fun K hK => ?_⟩
                                have e329 : a.tmps[329]? = some (.int .i64 0) := by rw [ha]; exact putSel_on (e := (10, 329, .int .i64 0)) 10 rfl rfl (hon 10 (by kernel_rfl)) rfl
                                replace ha := Aside0.mk ha
                                have FB := Aside0.mk Q_FB
                                have S1 := Aside0.mk (Q_S1 (hon 1 (by kernel_rfl)))
                                have S2 := Aside0.mk (Q_S2 (hon 1 (by kernel_rfl)))
                                refine value_ (w1 := w') (v := .int .i64 0) (by rfl) rfl ?_ ?_
                                · go_simp
                                  (try simp only [i64_w])
                                  try rfl
                                refine hK.out _ _ ⟨D1_, k1_, D2_, k2_, m1_, (by rw [ha.out]; exact putSel_upk 12 hb_ rfl rfl rfl), Q_FB, Q_S1, Q_S2, Q_X1_⟩
                              exact steps_nil
                            · rintro b a w' hall ⟨D1_, k1_, D2_, k2_, m1_, ha, Q_FB, Q_S1, Q_S2, Q_X1_⟩
                              clear FB
                              have hb0_ := hall 0 (by kernel_rfl)
                              have hb1_ := hall 1 (by kernel_rfl)
                              have hb2_ := hall 2 (by kernel_rfl)
                              have hb3_ := hall 3 (by kernel_rfl)
                              have hb4_ := hall 4 (by kernel_rfl)
                              have hb5_ := hall 5 (by kernel_rfl)
                              have hb6_ := hall 6 (by kernel_rfl)
                              have hb7_ := hall 7 (by kernel_rfl)
                              have hb8_ := hall 8 (by kernel_rfl)
                              have hb9_ := hall 9 (by kernel_rfl)
                              have hb10_ := hall 10 (by kernel_rfl)
                              have hb11_ := hall 11 (by kernel_rfl)
                              have hb12_ := hall 12 (by kernel_rfl)
                              subst ha
                              obtain rfl := Q_X1_ hb1_
                              simp only [putSel, hb0_, hb1_, hb2_, hb3_, hb4_, hb5_, hb6_, hb7_, hb8_, hb9_, hb10_, hb11_, hb12_, if_true, Act.put, List.setIfInBounds_toArray, List.set_cons_zero, List.set_cons_succ]
                              have FB := Aside0.mk Q_FB
                              clear Q_FB
                              have S1 := Aside0.mk (Q_S1 hb1_)
                              clear Q_S1
                              have S2 := Aside0.mk (Q_S2 hb1_)
                              clear Q_S2
                              clear hall hb0_ hb1_ hb2_ hb3_ hb4_ hb5_ hb6_ hb7_ hb8_ hb9_ hb10_ hb11_ hb12_
                              go_wp2_with fail
                              go_meet
                              exact ⟨rfl, rfl, FB⟩
                        case rest =>
                          obtain ⟨rfl, rfl, FB⟩ := hcut
                          go_wp2_with fail
                          go_roundw
                          case rel => exact ⟨m + 1, by omega, by go_num, ⟨below_step HBi.out FB.out⟩⟩
                          case measure => simp [intOf]; omega
                      · obtain rfl : m = 3 := by omega
                        have hltz : ¬ ((3 : Nat) : Int) < 3 := by omega
                        go_wp2_with fail
                        refine (irisKnown13_ok wi).mono ?_
                        rintro e w19 ⟨rfl, hb19⟩
                        go_wp2
                        go_ret
                        exact ⟨rfl, below_step HB1o.out (below_step HBs.out (below_step HBi.out hb19))⟩
          · go_wp2_with fail
            refine (irisKnown13_ok w7).mono ?_
            rintro e w8 ⟨rfl, hb8⟩
            go_wp2
            go_ret
            exact ⟨rfl, below_step HB1o.out (below_step HB7.out hb8)⟩
        · rcases hg8 with ⟨rfl, good8⟩ | rfl
          all_goals
            go_wp2_with fail
            refine (irisKnown13_ok w7).mono ?_
            rintro e w8 ⟨rfl, hb8⟩
            go_wp2
            go_ret
            exact ⟨rfl, below_step HB1o.out (below_step HB7.out hb8)⟩
end Go.Proofs.Ytfbndhhogpacmaa
