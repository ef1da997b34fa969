import Derived.Test.YtfbndhhogpacmaaGreatPj
/-! TopFiredAgain: the walk. Written by made3.py out of C34.src. -/
namespace Go.Proofs.YtfbndhhogpacmaaGreat
open Go.RowKit Go.Shelf
open Go.Proofs.YtfbndhhogpacmaaGreatW.PrintWords Go.Proofs.YtfbndhhogpacmaaGreatW.PrintLast Go.Proofs.YtfbndhhogpacmaaGreat.T
set_option linter.unusedVariables false
set_option linter.unusedSimpArgs false
def fired.T1 : Bool × List (List Nat × List Nat) := (true, [([], []), ([0], [0]), ([], []), ([2, 1], [2]), ([], []), ([4, 3], [4]), ([], []), ([], []), ([6, 1, 5, 0, 1, 6, 7], [1, 6]), ([3, 8, 0, 1, 2, 3, 6, 7, 8], [3]), ([7, 5, 9, 0, 1, 2, 3, 4, 5, 6, 7, 8, 9], [5, 7])])
def fired.B1 : List Nat := [0, 1, 0, 7, 0, 31, 0, 0, 255, 511, 1023]
theorem fired.tab1 : rtab .any (opsOf Tryz.f3 1) = fired.T1 := by kernel_rfl
theorem fired.bits1 : waitsOk fired.T1.2 fired.B1 = true := by kernel_rfl
def fired.T6 : Bool × List (List Nat × List Nat) := (true, [([], []), ([0], [0]), ([], []), ([], []), ([2, 3], [2, 3]), ([4], [4]), ([5], [5]), ([], []), ([7], [7]), ([8], [8]), ([9], [9]), ([10], [10]), ([11], [11]), ([1, 6, 12, 1], [1, 6, 12]), ([13], [13]), ([14], [14]), ([14], [14]), ([15, 13, 0, 1, 2, 3, 4, 5, 6, 7, 8, 9, 10, 11, 12, 13, 14, 15], [15]), ([16, 17, 0, 1, 2, 3, 4, 5, 6, 7, 8, 9, 10, 11, 12, 13, 14, 15, 16, 17], [16])])
def fired.B6 : List Nat := [0, 1, 0, 0, 12, 28, 60, 0, 128, 384, 896, 1920, 3968, 8191, 16383, 32767, 32767, 65535, 262143]
theorem fired.tab6 : rtab .any (opsOf Tryz.f3 6) = fired.T6 := by kernel_rfl
theorem fired.bits6 : waitsOk fired.T6.2 fired.B6 = true := by kernel_rfl
def fired.T11 : Bool × List (List Nat × List Nat) := (true, [([], []), ([0], [0]), ([], []), ([2, 1], [2]), ([], []), ([4, 3], [4]), ([1, 3, 5, 5], [1, 3, 5]), ([6], [6]), ([7], [7]), ([7], [7]), ([7], [7]), ([8, 6, 0, 1, 2, 3, 4, 5, 6, 7, 8], [8]), ([9, 11, 0, 1, 2, 3, 4, 5, 6, 7, 8, 9, 11], [9]), ([10, 12, 0, 1, 2, 3, 4, 5, 6, 7, 8, 9, 10, 11, 12], [10])])
def fired.B11 : List Nat := [0, 1, 0, 7, 0, 31, 63, 127, 255, 255, 255, 511, 3071, 8191]
theorem fired.tab11 : rtab .any (opsOf Tryz.f3 11) = fired.T11 := by kernel_rfl
theorem fired.bits11 : waitsOk fired.T11.2 fired.B11 = true := by kernel_rfl
def fired.T28 : Bool × List (List Nat × List Nat) := (true, [([], []), ([0], [0]), ([], []), ([2, 1], [2]), ([], []), ([4, 3], [4]), ([1, 3, 5, 5], [1, 3, 5]), ([6], [6]), ([7], [7]), ([7], [7]), ([7], [7]), ([8, 6, 0, 1, 2, 3, 4, 5, 6, 7, 8], [8]), ([9, 11, 0, 1, 2, 3, 4, 5, 6, 7, 8, 9, 11], [9]), ([10, 12, 0, 1, 2, 3, 4, 5, 6, 7, 8, 9, 10, 11, 12], [10])])
def fired.B28 : List Nat := [0, 1, 0, 7, 0, 31, 63, 127, 255, 255, 255, 511, 3071, 8191]
theorem fired.tab28 : rtab .any (opsOf Tryz.f3 28) = fired.T28 := by kernel_rfl
theorem fired.bits28 : waitsOk fired.T28.2 fired.B28 = true := by kernel_rfl
def fired.T29 : Bool × List (List Nat × List Nat) := (true, [([], []), ([0], [0]), ([], []), ([2, 1], [2]), ([], []), ([4, 3], [4]), ([], []), ([5, 6, 5], [5, 6]), ([7, 7], [7]), ([1, 3, 8, 8], [1, 3, 8]), ([9], [9]), ([10], [10]), ([10], [10]), ([10], [10]), ([11, 9, 0, 1, 2, 3, 4, 5, 6, 7, 8, 9, 10, 11], [11]), ([12, 14, 0, 1, 2, 3, 4, 5, 6, 7, 8, 9, 10, 11, 12, 14], [12]), ([13, 15, 0, 1, 2, 3, 4, 5, 6, 7, 8, 9, 10, 11, 12, 13, 14, 15], [13])])
def fired.B29 : List Nat := [0, 1, 0, 7, 0, 31, 0, 127, 255, 511, 1023, 2047, 2047, 2047, 4095, 24575, 65535]
theorem fired.tab29 : rtab .any (opsOf Tryz.f3 29) = fired.T29 := by kernel_rfl
theorem fired.bits29 : waitsOk fired.T29.2 fired.B29 = true := by kernel_rfl
def fired.T44 : Bool × List (List Nat × List Nat) := (true, [([], []), ([], []), ([0, 1], [0, 1]), ([2], [2]), ([], []), ([], []), ([4, 5], [4, 5]), ([6], [6]), ([7], [7]), ([], []), ([], []), ([9, 10], [9, 10]), ([11], [11]), ([12], [12]), ([8, 13], [8, 13]), ([], []), ([], []), ([15, 16], [15, 16]), ([17], [17]), ([18], [18]), ([], []), ([], []), ([20, 21], [20, 21]), ([22], [22]), ([23], [23]), ([19, 24], [19, 24]), ([14, 25], [14, 25]), ([3, 26], [3, 26])])
def fired.B44 : List Nat := [0, 0, 3, 7, 0, 0, 48, 112, 240, 0, 0, 1536, 3584, 7680, 16368, 0, 0, 98304, 229376, 491520, 0, 0, 3145728, 7340032, 15728640, 33521664, 67108848, 134217727]
theorem fired.tab44 : rtab .any (opsOf Tryz.f3 44) = fired.T44 := by kernel_rfl
theorem fired.bits44 : waitsOk fired.T44.2 fired.B44 = true := by kernel_rfl
set_option maxRecDepth 100000 in
set_option maxHeartbeats 16000000 in
theorem fired_ok (A0 A1 : Option Addr) (c0 c1 : Nat) (xs : List (Int × Int × Int)) (ys : List S65) (h0 h1 h2 o0 o1 o2 o3 o4 o5 : Int) (bx : ∀ x ∈ xs, OkByte x.1 ∧ OkByte x.2.1 ∧ OkByte x.2.2) (by_ : ∀ x ∈ ys, OkBytes4 x) (bh0 : OkByte h0) (bh1 : OkByte h1) (bh2 : OkByte h2) (bo0 : OkByte o0) (bo1 : OkByte o1) (bo2 : OkByte o2) (bo3 : OkByte o3) (bo4 : OkByte o4) (bo5 : OkByte o5)
  (hcap : ys.length ≤ c1) (w : World) (hC0 : k3.C w A0 xs.length xs) (hC1 : k65.C w A1 ys.length ys) :
  Calls Tryz.prog 3 #[.slice A0 xs.length c0, .slice A1 ys.length c1, .agg #[.int .u8 h0, .int .u8 h1, .int .u8 h2], .agg #[.int .u8 o0, .int .u8 o1, .int .u8 o2, .int .u8 o3, .int .u8 o4, .int .u8 o5]] w fun e w' => e = .returned (.bool true) ∧ Below w.heap.size w w' := by
 have HTM := Lib.hid (fun W (hb : Below w.heap.size w W) => townMade_ok A0 c0 xs bx hC0.2.1 W (Kd.C_below hC0 hb))
 have HIM := Lib.hid (fun W (hb : Below w.heap.size w W) => irisMade_ok A1 c1 ys hcap by_ hC1.2.1 W (Kd.C_below hC1 hb))
 have HIW := Lib.hid (fun W => smaltotop_irisWorks.calls 4 o0 o1 o2 o3 o4 o5 _ _ _ W (irisWorks_f o0 o1 o2 o3 o4 o5 bo0 bo1 bo2 bo3 bo4 bo5))
 have HSS : Aside0 (∀ s ∈ [slipB o0 o1, slipB o2 o3, slipB o4 o5], OkSlip s) := ⟨fun s hs => by
  simp only [List.mem_cons, List.not_mem_nil, or_false] at hs
  rcases hs with rfl | rfl | rfl <;> exact slipB_ok _ _⟩
 have hss : [slipB o0 o1, slipB o2 o3, slipB o4 o5].length = 3 := rfl
 generalize [slipB o0 o1, slipB o2 o3, slipB o4 o5] = ss at HIW HSS hss
 clear hC0 hC1 bx by_ hcap
 go_enter Tryz.func3, Tryz.ntmps3
 go_upto_region 1 with fail
 have HBI := Aside0.mk (below_alloc (below_alloc (Below.refl w.heap.size w) (.cells #[.int .u8 h0, .int .u8 h1, .int .u8 h2] 26)) (.cells #[.int .u8 o0, .int .u8 o1, .int .u8 o2, .int .u8 o3, .int .u8 o4, .int .u8 o5] 28))
 have BH := blk_alloc (blk_new w (.cells #[.int .u8 h0, .int .u8 h1, .int .u8 h2] 26)) (.cells #[.int .u8 o0, .int .u8 o1, .int .u8 o2, .int .u8 o3, .int .u8 o4, .int .u8 o5] 28)
 have BO := blk_new (w.alloc (.cells #[.int .u8 h0, .int .u8 h1, .int .u8 h2] 26)) (.cells #[.int .u8 o0, .int .u8 o1, .int .u8 o2, .int .u8 o3, .int .u8 o4, .int .u8 o5] 28)
 rw [World.size_alloc] at BO
 generalize (w.alloc (.cells #[.int .u8 h0, .int .u8 h1, .int .u8 h2] 26)).alloc (.cells #[.int .u8 o0, .int .u8 o1, .int .u8 o2, .int .u8 o3, .int .u8 o4, .int .u8 o5] 28) = wi at HBI BH BO ⊢
 generalize w.heap.size + 1 = gO at BO ⊢
 have HBH := Aside0.mk BH
 have HBO := Aside0.mk BO
 clear BH BO
 go_cut [9, 10, 11] from 36 to 41 (fun s9 s10 s11 wx => ∃ (chg : List S64) (l : List S47) (B1 B2 B3 B5 : Option Addr) (j1 j2 j3 j5 g9 g11 : Nat), s9 = .pointer (some ⟨g9, 0, none⟩) ∧ s10 = .slice B3 l.length j3 ∧ s11 = .pointer (some ⟨g11, 0, none⟩) ∧ Aside0 (GoodTown first3 chg ∧ chg.length ≤ 7) ∧ Aside0 (l.length ≤ 3 ∧ ∀ x ∈ l, OkSign 3 3 x)
   ∧ Aside0 (Kd.string.R 9 wx wi.heap.size (fun _ => True) (.slice B1 3 j1) first3) ∧ Aside0 (k64.R 64 wx wi.heap.size (fun _ => True) (.slice B2 chg.length j2) chg) ∧ Aside0 (k47.S 47 wx wi.heap.size (fun _ => True) (.slice B3 l.length j3) l) ∧ Aside0 (k67.R 67 wx wi.heap.size (fun _ => True) (.slice B5 3 j5) ss)
   ∧ Aside0 (wx.heap[g9]? = some (.cells #[.slice B1 3 j1, .slice B2 chg.length j2] 32 (0, 0))) ∧ Aside0 (wx.heap[g11]? = some (.cells #[.slice B5 3 j5, .int .i64 1, .int .i64 400] 38 (0, 0))) ∧ Aside0 (Below wi.heap.size wi wx))
 case first =>
  clear_value *
  as_aux_lemma =>
   have hgO : gO < wi.heap.size := blk_lt HBO.out
   have z0 : wi.cell? ⟨gO, 0, none⟩ = some (.int .u8 o0) := (blk_cell HBO.out 0).trans rfl
   have z1 : wi.cell? ⟨gO, 1, none⟩ = some (.int .u8 o1) := (blk_cell HBO.out 1).trans rfl
   have z2 : wi.cell? ⟨gO, 2, none⟩ = some (.int .u8 o2) := (blk_cell HBO.out 2).trans rfl
   have z3 : wi.cell? ⟨gO, 3, none⟩ = some (.int .u8 o3) := (blk_cell HBO.out 3).trans rfl
   have z4 : wi.cell? ⟨gO, 4, none⟩ = some (.int .u8 o4) := (blk_cell HBO.out 4).trans rfl
   have z5 : wi.cell? ⟨gO, 5, none⟩ = some (.int .u8 o5) := (blk_cell HBO.out 5).trans rfl
   clear HBO HBH
   refine start_ (n := 11) (S := fun w' => True) (ds := []) #[false, false, false, false, false, false, false, false, false, false, false] (by kernel_rfl) rfl rfl trivial (fun hHeld => ?_)
   refine with_tabW fired.tab1 fired.bits1 (fun HT_ HW_ => ?_)
   have FB := Aside0.mk (below_drew (Below.refl wi.heap.size wi))
   generalize wi.drew = w8 at FB ⊢
   refine inv_at [0, 1, 2, 3, 4, 5, 6, 7, 8, 9, 10] (fun a0_ b a w' => ∃ (chg_ : List S64) (l_ : List S47) (B1_ : Option Addr) (j1_ : Nat) (B2_ : Option Addr) (j2_ : Nat) (B3_ : Option Addr) (j3_ : Nat) (B5_ : Option Addr) (j5_ : Nat) (g9_ : Nat) (g11_ : Nat) (m1_ : Value) (m3_ : Value) (m5_ : Value) (m6_ : Value) (m7_ : Value) (m9_ : Value), a = putSel a0_ b [(0, 36, .slice A0 xs.length c0), (1, 37, m1_), (2, 38, .slice A1 ys.length c1), (3, 39, m3_), (4, 40, .agg #[.int .u8 o0, .int .u8 o1, .int .u8 o2, .int .u8 o3, .int .u8 o4, .int .u8 o5]), (5, 41, m5_), (6, 9, m6_), (7, 11, m7_), (9, 10, m9_)] ∧ (Below wi.heap.size wi w') ∧ (b 1 = true → (GoodTown first3 chg_ ∧ chg_.length ≤ 7)) ∧ (b 1 = true → Kd.string.R 9 w' wi.heap.size (fun _ => True) (.slice B1_ 3 j1_) first3) ∧ (b 1 = true → k64.R 64 w' wi.heap.size (fun _ => True) (.slice B2_ chg_.length j2_) chg_) ∧ (b 3 = true → (l_.length ≤ 3 ∧ ∀ x ∈ l_, OkSign 3 3 x)) ∧ (b 3 = true → k47.S 47 w' wi.heap.size (fun _ => True) (.slice B3_ l_.length j3_) l_) ∧ (b 5 = true → k67.R 67 w' wi.heap.size (fun _ => True) (.slice B5_ 3 j5_) ss) ∧ (b 6 = true → wi.heap.size ≤ g9_) ∧ (b 6 = true → b 8 = false → w'.heap[g9_]? = some (.cells #[.slice none 0 0, .slice none 0 0] 32 (0, 0))) ∧ (b 8 = true → w'.heap[g9_]? = some (.cells #[.slice B1_ 3 j1_, .slice B2_ chg_.length j2_] 32 (0, 0))) ∧ (b 7 = true → wi.heap.size ≤ g11_) ∧ (b 7 = true → b 10 = false → w'.heap[g11_]? = some (.cells #[.slice none 0 0, .int .i64 0, .int .i64 0] 38 (0, 0))) ∧ (b 10 = true → w'.heap[g11_]? = some (.cells #[.slice B5_ 3 j5_, .int .i64 1, .int .i64 400] 38 (0, 0))) ∧ (b 1 = true → (m1_ : Value) = .agg #[.slice B1_ 3 j1_, .slice B2_ chg_.length j2_]) ∧ (b 3 = true → (m3_ : Value) = .slice B3_ l_.length j3_) ∧ (b 5 = true → (m5_ : Value) = .agg #[.slice B5_ 3 j5_, .int .i64 1, .int .i64 400]) ∧ (b 6 = true → (m6_ : Value) = .pointer (some ⟨g9_, 0, none⟩)) ∧ (b 7 = true → (m7_ : Value) = .pointer (some ⟨g11_, 0, none⟩)) ∧ (b 9 = true → (m9_ : Value) = .slice B3_ l_.length j3_)) HT_.out HW_.out (by kernel_rfl) (by kernel_rfl) ?_ ?_ ?_
   ·exact ⟨[], [], none, 0, none, 0, none, 0, none, 0, 0, 0, .bool false, .bool false, .bool false, .bool false, .bool false, .bool false, by simp only [putSel, Bool.false_eq_true, if_false], FB.out, fun h_ => absurd h_ (by decide), fun h_ => absurd h_ (by decide), fun h_ => absurd h_ (by decide), fun h_ => absurd h_ (by decide), fun h_ => absurd h_ (by decide), fun h_ => absurd h_ (by decide), fun h_ => absurd h_ (by decide), fun h_ => absurd h_ (by decide), fun h_ => absurd h_ (by decide), fun h_ => absurd h_ (by decide), fun h_ => absurd h_ (by decide), fun h_ => absurd h_ (by decide), fun h_ => absurd h_ (by decide), fun h_ => absurd h_ (by decide), fun h_ => absurd h_ (by decide), fun h_ => absurd h_ (by decide), fun h_ => absurd h_ (by decide), fun h_ => absurd h_ (by decide)⟩
   ·skip
    clear FB
    refine steps_cons ?_ ?_
    ·rintro b a w' ⟨chg_, l_, B1_, j1_, B2_, j2_, B3_, j3_, B5_, j5_, g9_, g11_, m1_, m3_, m5_, m6_, m7_, m9_, ha, Q_FB, Q_FG, Q_R1, Q_R2, Q_FL, Q_R3, Q_R5, Q_B9, Q_G9Z, Q_G9, Q_B11, Q_G11Z, Q_G11, Q_X1_, Q_X3_, Q_X5_, Q_X6_, Q_X7_, Q_X9_⟩ hb_ hon hoff
     refine ⟨_, rfl, fun K hK => ?_⟩
     have e0 : a.tmps[0]? = some (.slice A0 xs.length c0) := by rw [ha]; exact (putSel_off rfl).trans rfl
     replace ha := Aside0.mk ha
     refine value_ (w1 := w') (v := .slice A0 xs.length c0) (by rfl) rfl ?_ ?_
     ·go_simp
      (try simp only [i64_w])
      try rfl
     refine hK.out _ _ ⟨chg_, l_, B1_, j1_, B2_, j2_, B3_, j3_, B5_, j5_, g9_, g11_, m1_, m3_, m5_, m6_, m7_, m9_, (by rw [ha.out]; exact putSel_upk 0 hb_ rfl rfl rfl), Q_FB, fun h0_ => absurd ((hoff 1 (by kernel_rfl)).symm.trans h0_) (by decide), fun h0_ => absurd ((hoff 1 (by kernel_rfl)).symm.trans h0_) (by decide), fun h0_ => absurd ((hoff 1 (by kernel_rfl)).symm.trans h0_) (by decide), fun h0_ => absurd ((hoff 3 (by kernel_rfl)).symm.trans h0_) (by decide), fun h0_ => absurd ((hoff 3 (by kernel_rfl)).symm.trans h0_) (by decide), fun h0_ => absurd ((hoff 5 (by kernel_rfl)).symm.trans h0_) (by decide), Q_B9, Q_G9Z, fun h0_ => absurd ((hoff 8 (by kernel_rfl)).symm.trans h0_) (by decide), Q_B11, Q_G11Z, fun h0_ => absurd ((hoff 10 (by kernel_rfl)).symm.trans h0_) (by decide), fun h0_ => absurd ((hoff 1 (by kernel_rfl)).symm.trans h0_) (by decide), fun h0_ => absurd ((hoff 3 (by kernel_rfl)).symm.trans h0_) (by decide), fun h0_ => absurd ((hoff 5 (by kernel_rfl)).symm.trans h0_) (by decide), Q_X6_, Q_X7_, fun h0_ => absurd ((hoff 9 (by kernel_rfl)).symm.trans h0_) (by decide)⟩
    refine steps_cons ?_ ?_
    ·rintro b a w' ⟨chg_, l_, B1_, j1_, B2_, j2_, B3_, j3_, B5_, j5_, g9_, g11_, m1_, m3_, m5_, m6_, m7_, m9_, ha, Q_FB, Q_FG, Q_R1, Q_R2, Q_FL, Q_R3, Q_R5, Q_B9, Q_G9Z, Q_G9, Q_B11, Q_G11Z, Q_G11, Q_X1_, Q_X3_, Q_X5_, Q_X6_, Q_X7_, Q_X9_⟩ hb_ hon hoff
     refine ⟨_, rfl, fun K hK => ?_⟩
     have e36 : a.tmps[36]? = some (.slice A0 xs.length c0) := by rw [ha]; exact putSel_on (e := (0, 36, .slice A0 xs.length c0)) 0 rfl rfl (hon 0 (by kernel_rfl)) rfl
     replace ha := Aside0.mk ha
     have FB := Aside0.mk Q_FB
     refine goes_ Tryz.func4 (by kernel_rfl) rfl #[.slice A0 xs.length c0] (by rfl) rfl rfl (by first | rfl | (simp [Act.eval, e36]; done)) ?_
     refine (HTM.out w' (below_step HBI.out FB.out)).mono ?_
     rintro e w2_ ⟨ch, u1, u2, rfl, hg1, hg2, hr1, hr2, hbN⟩
     obtain ⟨D1, k1, rfl⟩ := Kd.R_slice hr1
     obtain ⟨D2, k2, rfl⟩ := Kd.R_slice hr2
     rw [show first3.length = 3 from rfl] at hr1 ⊢
     refine ⟨_, rfl, ?_⟩
     refine hK.out _ _ ⟨ch, l_, D1, k1, D2, k2, B3_, j3_, B5_, j5_, g9_, g11_, (.agg #[.slice D1 3 k1, .slice D2 ch.length k2]), m3_, m5_, m6_, m7_, m9_, (by rw [ha.out]; exact putSel_upk 1 hb_ rfl rfl rfl), FB.out.trans (hbN.mono FB.out.size), fun _ => ⟨hg1, hg2⟩, fun _ => Kd.R_lower hr1 FB.out.size, fun _ => Kd.R_lower hr2 FB.out.size, fun h0_ => absurd ((hoff 3 (by kernel_rfl)).symm.trans h0_) (by decide), fun h0_ => absurd ((hoff 3 (by kernel_rfl)).symm.trans h0_) (by decide), fun h0_ => absurd ((hoff 5 (by kernel_rfl)).symm.trans h0_) (by decide), Q_B9, fun h0_ h1_ => blk_below (Q_G9Z h0_ h1_) hbN, fun h0_ => absurd ((hoff 8 (by kernel_rfl)).symm.trans h0_) (by decide), Q_B11, fun h0_ h1_ => blk_below (Q_G11Z h0_ h1_) hbN, fun h0_ => absurd ((hoff 10 (by kernel_rfl)).symm.trans h0_) (by decide), fun _ => rfl, fun h0_ => absurd ((hoff 3 (by kernel_rfl)).symm.trans h0_) (by decide), fun h0_ => absurd ((hoff 5 (by kernel_rfl)).symm.trans h0_) (by decide), Q_X6_, Q_X7_, fun h0_ => absurd ((hoff 9 (by kernel_rfl)).symm.trans h0_) (by decide)⟩
    refine steps_cons ?_ ?_
    ·rintro b a w' ⟨chg_, l_, B1_, j1_, B2_, j2_, B3_, j3_, B5_, j5_, g9_, g11_, m1_, m3_, m5_, m6_, m7_, m9_, ha, Q_FB, Q_FG, Q_R1, Q_R2, Q_FL, Q_R3, Q_R5, Q_B9, Q_G9Z, Q_G9, Q_B11, Q_G11Z, Q_G11, Q_X1_, Q_X3_, Q_X5_, Q_X6_, Q_X7_, Q_X9_⟩ hb_ hon hoff
     refine ⟨_, rfl, fun K hK => ?_⟩
     have e1 : a.tmps[1]? = some (.slice A1 ys.length c1) := by rw [ha]; exact (putSel_off rfl).trans rfl
     replace ha := Aside0.mk ha
     refine value_ (w1 := w') (v := .slice A1 ys.length c1) (by rfl) rfl ?_ ?_
     ·go_simp
      (try simp only [i64_w])
      try rfl
     refine hK.out _ _ ⟨chg_, l_, B1_, j1_, B2_, j2_, B3_, j3_, B5_, j5_, g9_, g11_, m1_, m3_, m5_, m6_, m7_, m9_, (by rw [ha.out]; exact putSel_upk 2 hb_ rfl rfl rfl), Q_FB, Q_FG, Q_R1, Q_R2, fun h0_ => absurd ((hoff 3 (by kernel_rfl)).symm.trans h0_) (by decide), fun h0_ => absurd ((hoff 3 (by kernel_rfl)).symm.trans h0_) (by decide), fun h0_ => absurd ((hoff 5 (by kernel_rfl)).symm.trans h0_) (by decide), Q_B9, Q_G9Z, fun h0_ => absurd ((hoff 8 (by kernel_rfl)).symm.trans h0_) (by decide), Q_B11, Q_G11Z, fun h0_ => absurd ((hoff 10 (by kernel_rfl)).symm.trans h0_) (by decide), Q_X1_, fun h0_ => absurd ((hoff 3 (by kernel_rfl)).symm.trans h0_) (by decide), fun h0_ => absurd ((hoff 5 (by kernel_rfl)).symm.trans h0_) (by decide), Q_X6_, Q_X7_, fun h0_ => absurd ((hoff 9 (by kernel_rfl)).symm.trans h0_) (by decide)⟩
    refine steps_cons ?_ ?_
    ·rintro b a w' ⟨chg_, l_, B1_, j1_, B2_, j2_, B3_, j3_, B5_, j5_, g9_, g11_, m1_, m3_, m5_, m6_, m7_, m9_, ha, Q_FB, Q_FG, Q_R1, Q_R2, Q_FL, Q_R3, Q_R5, Q_B9, Q_G9Z, Q_G9, Q_B11, Q_G11Z, Q_G11, Q_X1_, Q_X3_, Q_X5_, Q_X6_, Q_X7_, Q_X9_⟩ hb_ hon hoff
     refine ⟨_, rfl, fun K hK => ?_⟩
     have e38 : a.tmps[38]? = some (.slice A1 ys.length c1) := by rw [ha]; exact putSel_on (e := (2, 38, .slice A1 ys.length c1)) 2 rfl rfl (hon 2 (by kernel_rfl)) rfl
     replace ha := Aside0.mk ha
     have FB := Aside0.mk Q_FB
     have R1 := Aside0.mk (Q_R1 (hon 1 (by kernel_rfl)))
     have R2 := Aside0.mk (Q_R2 (hon 1 (by kernel_rfl)))
     refine goes_ Tryz.func5 (by kernel_rfl) rfl #[.slice A1 ys.length c1] (by rfl) rfl rfl (by first | rfl | (simp [Act.eval, e38]; done)) ?_
     refine (HIM.out w' (below_step HBI.out FB.out)).mono ?_
     rintro e w2_ ⟨sl, u3, rfl, hg1, hg2, hr1, hbN⟩
     obtain ⟨D1, k1, rfl⟩ := Kd.S_slice hr1
     refine ⟨_, rfl, ?_⟩
     refine hK.out _ _ ⟨chg_, sl, B1_, j1_, B2_, j2_, D1, k1, B5_, j5_, g9_, g11_, m1_, (.slice D1 sl.length k1), m5_, m6_, m7_, m9_, (by rw [ha.out]; exact putSel_upk 3 hb_ rfl rfl rfl), FB.out.trans (hbN.mono FB.out.size), Q_FG, fun _ => Kd.R_below R1.out hbN, fun _ => Kd.R_below R2.out hbN, fun _ => ⟨hg1, hg2⟩, fun _ => Kd.S_lower hr1 FB.out.size, fun h0_ => absurd ((hoff 5 (by kernel_rfl)).symm.trans h0_) (by decide), Q_B9, fun h0_ h1_ => blk_below (Q_G9Z h0_ h1_) hbN, fun h0_ => absurd ((hoff 8 (by kernel_rfl)).symm.trans h0_) (by decide), Q_B11, fun h0_ h1_ => blk_below (Q_G11Z h0_ h1_) hbN, fun h0_ => absurd ((hoff 10 (by kernel_rfl)).symm.trans h0_) (by decide), Q_X1_, fun _ => rfl, fun h0_ => absurd ((hoff 5 (by kernel_rfl)).symm.trans h0_) (by decide), Q_X6_, Q_X7_, fun h0_ => absurd ((hoff 9 (by kernel_rfl)).symm.trans h0_) (by decide)⟩
    refine steps_cons ?_ ?_
    ·rintro b a w' ⟨chg_, l_, B1_, j1_, B2_, j2_, B3_, j3_, B5_, j5_, g9_, g11_, m1_, m3_, m5_, m6_, m7_, m9_, ha, Q_FB, Q_FG, Q_R1, Q_R2, Q_FL, Q_R3, Q_R5, Q_B9, Q_G9Z, Q_G9, Q_B11, Q_G11Z, Q_G11, Q_X1_, Q_X3_, Q_X5_, Q_X6_, Q_X7_, Q_X9_⟩ hb_ hon hoff
     refine ⟨_, rfl, fun K hK => ?_⟩
     have e7 : a.tmps[7]? = some (.pointer (some ⟨gO, 0, none⟩)) := by rw [ha]; exact (putSel_off rfl).trans rfl
     replace ha := Aside0.mk ha
     have FB := Aside0.mk Q_FB
     have y0_ := (FB.out.cell (p := ⟨gO, 0, none⟩) hgO).trans z0
     have y1_ := (FB.out.cell (p := ⟨gO, 1, none⟩) hgO).trans z1
     have y2_ := (FB.out.cell (p := ⟨gO, 2, none⟩) hgO).trans z2
     have y3_ := (FB.out.cell (p := ⟨gO, 3, none⟩) hgO).trans z3
     have y4_ := (FB.out.cell (p := ⟨gO, 4, none⟩) hgO).trans z4
     have y5_ := (FB.out.cell (p := ⟨gO, 5, none⟩) hgO).trans z5
     refine value_ (w1 := w') (v := .agg #[.int .u8 o0, .int .u8 o1, .int .u8 o2, .int .u8 o3, .int .u8 o4, .int .u8 o5]) (by rfl) rfl ?_ ?_
     ·go_simp
      (try simp only [i64_w])
      try rfl
     refine hK.out _ _ ⟨chg_, l_, B1_, j1_, B2_, j2_, B3_, j3_, B5_, j5_, g9_, g11_, m1_, m3_, m5_, m6_, m7_, m9_, (by rw [ha.out]; exact putSel_upk 4 hb_ rfl rfl rfl), Q_FB, Q_FG, Q_R1, Q_R2, Q_FL, Q_R3, fun h0_ => absurd ((hoff 5 (by kernel_rfl)).symm.trans h0_) (by decide), Q_B9, Q_G9Z, fun h0_ => absurd ((hoff 8 (by kernel_rfl)).symm.trans h0_) (by decide), Q_B11, Q_G11Z, fun h0_ => absurd ((hoff 10 (by kernel_rfl)).symm.trans h0_) (by decide), Q_X1_, Q_X3_, fun h0_ => absurd ((hoff 5 (by kernel_rfl)).symm.trans h0_) (by decide), Q_X6_, Q_X7_, fun h0_ => absurd ((hoff 9 (by kernel_rfl)).symm.trans h0_) (by decide)⟩
    refine steps_cons ?_ ?_
    ·rintro b a w' ⟨chg_, l_, B1_, j1_, B2_, j2_, B3_, j3_, B5_, j5_, g9_, g11_, m1_, m3_, m5_, m6_, m7_, m9_, ha, Q_FB, Q_FG, Q_R1, Q_R2, Q_FL, Q_R3, Q_R5, Q_B9, Q_G9Z, Q_G9, Q_B11, Q_G11Z, Q_G11, Q_X1_, Q_X3_, Q_X5_, Q_X6_, Q_X7_, Q_X9_⟩ hb_ hon hoff
     refine ⟨_, rfl, fun K hK => ?_⟩
     have e40 : a.tmps[40]? = some (.agg #[.int .u8 o0, .int .u8 o1, .int .u8 o2, .int .u8 o3, .int .u8 o4, .int .u8 o5]) := by rw [ha]; exact putSel_on (e := (4, 40, .agg #[.int .u8 o0, .int .u8 o1, .int .u8 o2, .int .u8 o3, .int .u8 o4, .int .u8 o5])) 4 rfl rfl (hon 4 (by kernel_rfl)) rfl
     replace ha := Aside0.mk ha
     have FB := Aside0.mk Q_FB
     have R1 := Aside0.mk (Q_R1 (hon 1 (by kernel_rfl)))
     have R2 := Aside0.mk (Q_R2 (hon 1 (by kernel_rfl)))
     have R3 := Aside0.mk (Q_R3 (hon 3 (by kernel_rfl)))
     refine goes_ Tryz.func6 (by kernel_rfl) rfl #[.agg #[.int .u8 o0, .int .u8 o1, .int .u8 o2, .int .u8 o3, .int .u8 o4, .int .u8 o5]] (by rfl) rfl rfl (by first | rfl | (simp [Act.eval, e40]; done)) ?_
     refine (HIW.out w').mono ?_
     rintro e w2_ ⟨u5, rfl, hr1, hbN⟩
     obtain ⟨D1, k1, rfl⟩ := Kd.R_slice hr1
     rw [hss] at hr1 ⊢
     refine ⟨_, rfl, ?_⟩
     refine hK.out _ _ ⟨chg_, l_, B1_, j1_, B2_, j2_, B3_, j3_, D1, k1, g9_, g11_, m1_, m3_, (.agg #[.slice D1 3 k1, .int .i64 1, .int .i64 400]), m6_, m7_, m9_, (by rw [ha.out]; exact putSel_upk 5 hb_ rfl rfl rfl), FB.out.trans (hbN.mono FB.out.size), Q_FG, fun _ => Kd.R_below R1.out hbN, fun _ => Kd.R_below R2.out hbN, Q_FL, fun _ => Kd.S_below R3.out hbN, fun _ => Kd.R_lower hr1 FB.out.size, Q_B9, fun h0_ h1_ => blk_below (Q_G9Z h0_ h1_) hbN, fun h0_ => absurd ((hoff 8 (by kernel_rfl)).symm.trans h0_) (by decide), Q_B11, fun h0_ h1_ => blk_below (Q_G11Z h0_ h1_) hbN, fun h0_ => absurd ((hoff 10 (by kernel_rfl)).symm.trans h0_) (by decide), Q_X1_, Q_X3_, fun _ => rfl, Q_X6_, Q_X7_, fun h0_ => absurd ((hoff 9 (by kernel_rfl)).symm.trans h0_) (by decide)⟩
    refine steps_cons ?_ ?_
    ·rintro b a w' ⟨chg_, l_, B1_, j1_, B2_, j2_, B3_, j3_, B5_, j5_, g9_, g11_, m1_, m3_, m5_, m6_, m7_, m9_, ha, Q_FB, Q_FG, Q_R1, Q_R2, Q_FL, Q_R3, Q_R5, Q_B9, Q_G9Z, Q_G9, Q_B11, Q_G11Z, Q_G11, Q_X1_, Q_X3_, Q_X5_, Q_X6_, Q_X7_, Q_X9_⟩ hb_ hon hoff
     refine ⟨_, rfl, fun K hK => ?_⟩
     replace ha := Aside0.mk ha
     have FB := Aside0.mk Q_FB
     refine value_ (w1 := w'.alloc (.cells #[.slice none 0 0, .slice none 0 0] 32)) (v := .pointer (some ⟨w'.heap.size, 0, none⟩)) (by rfl) rfl ?_ ?_
     ·go_simp
      try rfl
     refine hK.out _ _ ⟨chg_, l_, B1_, j1_, B2_, j2_, B3_, j3_, B5_, j5_, w'.heap.size, g11_, m1_, m3_, m5_, (.pointer (some ⟨w'.heap.size, 0, none⟩)), m7_, m9_, (by rw [ha.out]; exact putSel_upk 6 hb_ rfl rfl rfl), below_alloc FB.out _, Q_FG, fun h0_ => Kd.R_alloc (Q_R1 h0_) _, fun h0_ => Kd.R_alloc (Q_R2 h0_) _, Q_FL, fun h0_ => Kd.S_alloc (Q_R3 h0_) _, fun h0_ => Kd.R_alloc (Q_R5 h0_) _, fun _ => FB.out.size, fun _ _ => blk_new w' _, fun h0_ => absurd ((hoff 8 (by kernel_rfl)).symm.trans h0_) (by decide), Q_B11, fun h0_ h1_ => blk_alloc (Q_G11Z h0_ h1_) _, fun h0_ => absurd ((hoff 10 (by kernel_rfl)).symm.trans h0_) (by decide), Q_X1_, Q_X3_, Q_X5_, fun _ => rfl, Q_X7_, fun h0_ => absurd ((hoff 9 (by kernel_rfl)).symm.trans h0_) (by decide)⟩
    refine steps_cons ?_ ?_
    ·rintro b a w' ⟨chg_, l_, B1_, j1_, B2_, j2_, B3_, j3_, B5_, j5_, g9_, g11_, m1_, m3_, m5_, m6_, m7_, m9_, ha, Q_FB, Q_FG, Q_R1, Q_R2, Q_FL, Q_R3, Q_R5, Q_B9, Q_G9Z, Q_G9, Q_B11, Q_G11Z, Q_G11, Q_X1_, Q_X3_, Q_X5_, Q_X6_, Q_X7_, Q_X9_⟩ hb_ hon hoff
     refine ⟨_, rfl, fun K hK => ?_⟩
     replace ha := Aside0.mk ha
     have FB := Aside0.mk Q_FB
     refine value_ (w1 := w'.alloc (.cells #[.slice none 0 0, .int .i64 0, .int .i64 0] 38)) (v := .pointer (some ⟨w'.heap.size, 0, none⟩)) (by rfl) rfl ?_ ?_
     ·go_simp
      try rfl
     refine hK.out _ _ ⟨chg_, l_, B1_, j1_, B2_, j2_, B3_, j3_, B5_, j5_, g9_, w'.heap.size, m1_, m3_, m5_, m6_, (.pointer (some ⟨w'.heap.size, 0, none⟩)), m9_, (by rw [ha.out]; exact putSel_upk 7 hb_ rfl rfl rfl), below_alloc FB.out _, Q_FG, fun h0_ => Kd.R_alloc (Q_R1 h0_) _, fun h0_ => Kd.R_alloc (Q_R2 h0_) _, Q_FL, fun h0_ => Kd.S_alloc (Q_R3 h0_) _, fun h0_ => Kd.R_alloc (Q_R5 h0_) _, Q_B9, fun h0_ h1_ => blk_alloc (Q_G9Z h0_ h1_) _, fun h0_ => absurd ((hoff 8 (by kernel_rfl)).symm.trans h0_) (by decide), fun _ => FB.out.size, fun _ _ => blk_new w' _, fun h0_ => absurd ((hoff 10 (by kernel_rfl)).symm.trans h0_) (by decide), Q_X1_, Q_X3_, Q_X5_, Q_X6_, fun _ => rfl, fun h0_ => absurd ((hoff 9 (by kernel_rfl)).symm.trans h0_) (by decide)⟩
    refine steps_cons ?_ ?_
    ·rintro b a w' ⟨chg_, l_, B1_, j1_, B2_, j2_, B3_, j3_, B5_, j5_, g9_, g11_, m1_, m3_, m5_, m6_, m7_, m9_, ha, Q_FB, Q_FG, Q_R1, Q_R2, Q_FL, Q_R3, Q_R5, Q_B9, Q_G9Z, Q_G9, Q_B11, Q_G11Z, Q_G11, Q_X1_, Q_X3_, Q_X5_, Q_X6_, Q_X7_, Q_X9_⟩ hb_ hon hoff
     refine ⟨_, rfl, fun K hK => ?_⟩
     have e9 : a.tmps[9]? = some (m6_) := by rw [ha]; exact putSel_on (e := (6, 9, m6_)) 6 rfl rfl (hon 6 (by kernel_rfl)) rfl
     rw [Q_X6_ (hon 6 (by kernel_rfl))] at e9
     have e37 : a.tmps[37]? = some (m1_) := by rw [ha]; exact putSel_on (e := (1, 37, m1_)) 1 rfl rfl (hon 1 (by kernel_rfl)) rfl
     rw [Q_X1_ (hon 1 (by kernel_rfl))] at e37
     replace ha := Aside0.mk ha
     have FB := Aside0.mk Q_FB
     have R1 := Aside0.mk (Q_R1 (hon 1 (by kernel_rfl)))
     have R2 := Aside0.mk (Q_R2 (hon 1 (by kernel_rfl)))
     have R3 := Aside0.mk (Q_R3 (hon 3 (by kernel_rfl)))
     have R5 := Aside0.mk (Q_R5 (hon 5 (by kernel_rfl)))
     have B9 := Aside0.mk (Q_B9 (hon 6 (by kernel_rfl)))
     have G9Z := Aside0.mk (Q_G9Z (hon 6 (by kernel_rfl)) hb_)
     have G11Z := Aside0.mk (Q_G11Z (hon 7 (by kernel_rfl)) (hoff 10 (by kernel_rfl)))
     have f0_ := blk_frozen G9Z.out 0
     have f1_ := blk_frozen G9Z.out 1
     have c0_ : w'.cell? ⟨g9_, 0, none⟩ = some (.slice none 0 0) := (blk_cell G9Z.out 0).trans rfl
     have c1_ : w'.cell? ⟨g9_, 1, none⟩ = some (.slice none 0 0) := (blk_cell G9Z.out 1).trans rfl
     refine skip_ (w1 := (w'.setCell ⟨g9_, 0, none⟩ (.slice B1_ 3 j1_)).setCell ⟨g9_, 1, none⟩ (.slice B2_ chg_.length j2_)) (by rfl) rfl ?_ ?_
     ·go_simp
      try rfl
     refine hK.out _ _ ⟨chg_, l_, B1_, j1_, B2_, j2_, B3_, j3_, B5_, j5_, g9_, g11_, m1_, m3_, m5_, m6_, m7_, m9_, (by rw [ha.out]; exact putSel_none (v := undef) rfl), below_set (below_set (FB.out) B9.out) B9.out, Q_FG, fun _ => Kd.R_set (Kd.R_set (R1.out) (G9Z.out) (by decide) 0 _) (blk_put (G9Z.out) 0 _ rfl) (by decide) 1 _, fun _ => Kd.R_set (Kd.R_set (R2.out) (G9Z.out) (by decide) 0 _) (blk_put (G9Z.out) 0 _ rfl) (by decide) 1 _, Q_FL, fun _ => Kd.S_set (Kd.S_set (R3.out) (G9Z.out) (by decide) 0 _) (blk_put (G9Z.out) 0 _ rfl) (by decide) 1 _, fun _ => Kd.R_set (Kd.R_set (R5.out) (G9Z.out) (by decide) 0 _) (blk_put (G9Z.out) 0 _ rfl) (by decide) 1 _, Q_B9, fun _ h1_ => absurd ((up_self b 8).symm.trans h1_) (by decide), fun _ => blk_put (blk_put (G9Z.out) 0 _ rfl) 1 _ rfl, Q_B11, fun _ _ => blk_far (blk_far (G11Z.out) (blk_ne G11Z.out G9Z.out (by decide)) _) (blk_ne G11Z.out G9Z.out (by decide)) _, fun h0_ => absurd ((hoff 10 (by kernel_rfl)).symm.trans h0_) (by decide), Q_X1_, Q_X3_, Q_X5_, Q_X6_, Q_X7_, fun h0_ => absurd ((hoff 9 (by kernel_rfl)).symm.trans h0_) (by decide)⟩
    refine steps_cons ?_ ?_
    ·rintro b a w' ⟨chg_, l_, B1_, j1_, B2_, j2_, B3_, j3_, B5_, j5_, g9_, g11_, m1_, m3_, m5_, m6_, m7_, m9_, ha, Q_FB, Q_FG, Q_R1, Q_R2, Q_FL, Q_R3, Q_R5, Q_B9, Q_G9Z, Q_G9, Q_B11, Q_G11Z, Q_G11, Q_X1_, Q_X3_, Q_X5_, Q_X6_, Q_X7_, Q_X9_⟩ hb_ hon hoff
     refine ⟨_, rfl, fun K hK => ?_⟩
     have e39 : a.tmps[39]? = some (m3_) := by rw [ha]; exact putSel_on (e := (3, 39, m3_)) 3 rfl rfl (hon 3 (by kernel_rfl)) rfl
     rw [Q_X3_ (hon 3 (by kernel_rfl))] at e39
     replace ha := Aside0.mk ha
     refine value_ (w1 := w') (v := .slice B3_ l_.length j3_) (by rfl) rfl ?_ ?_
     ·go_simp
      (try simp only [i64_w])
      try rfl
     refine hK.out _ _ ⟨chg_, l_, B1_, j1_, B2_, j2_, B3_, j3_, B5_, j5_, g9_, g11_, m1_, m3_, m5_, m6_, m7_, (.slice B3_ l_.length j3_), (by rw [ha.out]; exact putSel_upk 8 hb_ rfl rfl rfl), Q_FB, Q_FG, Q_R1, Q_R2, Q_FL, Q_R3, Q_R5, Q_B9, fun _ h1_ => absurd ((hon 8 (by kernel_rfl)).symm.trans h1_) (by decide), Q_G9, Q_B11, Q_G11Z, fun h0_ => absurd ((hoff 10 (by kernel_rfl)).symm.trans h0_) (by decide), Q_X1_, Q_X3_, Q_X5_, Q_X6_, Q_X7_, fun _ => rfl⟩
    refine steps_cons ?_ ?_
    ·rintro b a w' ⟨chg_, l_, B1_, j1_, B2_, j2_, B3_, j3_, B5_, j5_, g9_, g11_, m1_, m3_, m5_, m6_, m7_, m9_, ha, Q_FB, Q_FG, Q_R1, Q_R2, Q_FL, Q_R3, Q_R5, Q_B9, Q_G9Z, Q_G9, Q_B11, Q_G11Z, Q_G11, Q_X1_, Q_X3_, Q_X5_, Q_X6_, Q_X7_, Q_X9_⟩ hb_ hon hoff
     refine ⟨_, rfl, fun K hK => ?_⟩
     have e11 : a.tmps[11]? = some (m7_) := by rw [ha]; exact putSel_on (e := (7, 11, m7_)) 7 rfl rfl (hon 7 (by kernel_rfl)) rfl
     rw [Q_X7_ (hon 7 (by kernel_rfl))] at e11
     have e41 : a.tmps[41]? = some (m5_) := by rw [ha]; exact putSel_on (e := (5, 41, m5_)) 5 rfl rfl (hon 5 (by kernel_rfl)) rfl
     rw [Q_X5_ (hon 5 (by kernel_rfl))] at e41
     replace ha := Aside0.mk ha
     have FB := Aside0.mk Q_FB
     have R1 := Aside0.mk (Q_R1 (hon 1 (by kernel_rfl)))
     have R2 := Aside0.mk (Q_R2 (hon 1 (by kernel_rfl)))
     have R3 := Aside0.mk (Q_R3 (hon 3 (by kernel_rfl)))
     have R5 := Aside0.mk (Q_R5 (hon 5 (by kernel_rfl)))
     have G9 := Aside0.mk (Q_G9 (hon 8 (by kernel_rfl)))
     have B11 := Aside0.mk (Q_B11 (hon 7 (by kernel_rfl)))
     have G11Z := Aside0.mk (Q_G11Z (hon 7 (by kernel_rfl)) hb_)
     have f0_ := blk_frozen G11Z.out 0
     have f1_ := blk_frozen G11Z.out 1
     have f2_ := blk_frozen G11Z.out 2
     have c0_ : w'.cell? ⟨g11_, 0, none⟩ = some (.slice none 0 0) := (blk_cell G11Z.out 0).trans rfl
     have c1_ : w'.cell? ⟨g11_, 1, none⟩ = some (.int .i64 0) := (blk_cell G11Z.out 1).trans rfl
     have c2_ : w'.cell? ⟨g11_, 2, none⟩ = some (.int .i64 0) := (blk_cell G11Z.out 2).trans rfl
     refine skip_ (w1 := ((w'.setCell ⟨g11_, 0, none⟩ (.slice B5_ 3 j5_)).setCell ⟨g11_, 1, none⟩ (.int .i64 1)).setCell ⟨g11_, 2, none⟩ (.int .i64 400)) (by rfl) rfl ?_ ?_
     ·go_simp
      try rfl
     refine hK.out _ _ ⟨chg_, l_, B1_, j1_, B2_, j2_, B3_, j3_, B5_, j5_, g9_, g11_, m1_, m3_, m5_, m6_, m7_, m9_, (by rw [ha.out]; exact putSel_none (v := undef) rfl), below_set (below_set (below_set (FB.out) B11.out) B11.out) B11.out, Q_FG, fun _ => Kd.R_set (Kd.R_set (Kd.R_set (R1.out) (G11Z.out) (by decide) 0 _) (blk_put (G11Z.out) 0 _ rfl) (by decide) 1 _) (blk_put (blk_put (G11Z.out) 0 _ rfl) 1 _ rfl) (by decide) 2 _, fun _ => Kd.R_set (Kd.R_set (Kd.R_set (R2.out) (G11Z.out) (by decide) 0 _) (blk_put (G11Z.out) 0 _ rfl) (by decide) 1 _) (blk_put (blk_put (G11Z.out) 0 _ rfl) 1 _ rfl) (by decide) 2 _, Q_FL, fun _ => Kd.S_set (Kd.S_set (Kd.S_set (R3.out) (G11Z.out) (by decide) 0 _) (blk_put (G11Z.out) 0 _ rfl) (by decide) 1 _) (blk_put (blk_put (G11Z.out) 0 _ rfl) 1 _ rfl) (by decide) 2 _, fun _ => Kd.R_set (Kd.R_set (Kd.R_set (R5.out) (G11Z.out) (by decide) 0 _) (blk_put (G11Z.out) 0 _ rfl) (by decide) 1 _) (blk_put (blk_put (G11Z.out) 0 _ rfl) 1 _ rfl) (by decide) 2 _, Q_B9, fun _ h1_ => absurd ((hon 8 (by kernel_rfl)).symm.trans h1_) (by decide), fun _ => blk_far (blk_far (blk_far (G9.out) (blk_ne G9.out G11Z.out (by decide)) _) (blk_ne G9.out G11Z.out (by decide)) _) (blk_ne G9.out G11Z.out (by decide)) _, Q_B11, fun _ h1_ => absurd ((up_self b 10).symm.trans h1_) (by decide), fun _ => blk_put (blk_put (blk_put (G11Z.out) 0 _ rfl) 1 _ rfl) 2 _ rfl, Q_X1_, Q_X3_, Q_X5_, Q_X6_, Q_X7_, Q_X9_⟩
    exact steps_nil
   ·rintro b a w' hall ⟨chg_, l_, B1_, j1_, B2_, j2_, B3_, j3_, B5_, j5_, g9_, g11_, m1_, m3_, m5_, m6_, m7_, m9_, ha, Q_FB, Q_FG, Q_R1, Q_R2, Q_FL, Q_R3, Q_R5, Q_B9, Q_G9Z, Q_G9, Q_B11, Q_G11Z, Q_G11, Q_X1_, Q_X3_, Q_X5_, Q_X6_, Q_X7_, Q_X9_⟩
    clear FB
    have hb0_ := hall 0 (by kernel_rfl)
    have hb1_ := hall 1 (by kernel_rfl)
    have hb2_ := hall 2 (by kernel_rfl)
    have hb3_ := hall 3 (by kernel_rfl)
    have hb4_ := hall 4 (by kernel_rfl)
    have hb5_ := hall 5 (by kernel_rfl)
    have hb6_ := hall 6 (by kernel_rfl)
    have hb7_ := hall 7 (by kernel_rfl)
    have hb8_ := hall 8 (by kernel_rfl)
    have hb9_ := hall 9 (by kernel_rfl)
    have hb10_ := hall 10 (by kernel_rfl)
    subst ha
    obtain rfl := Q_X1_ hb1_
    obtain rfl := Q_X3_ hb3_
    obtain rfl := Q_X5_ hb5_
    obtain rfl := Q_X6_ hb6_
    obtain rfl := Q_X7_ hb7_
    obtain rfl := Q_X9_ hb9_
    simp only [putSel, hb0_, hb1_, hb2_, hb3_, hb4_, hb5_, hb6_, hb7_, hb8_, hb9_, hb10_, if_true, Act.put, List.setIfInBounds_toArray, List.set_cons_zero, List.set_cons_succ]
    have FB := Aside0.mk Q_FB
    clear Q_FB
    have FG := Aside0.mk (Q_FG hb1_)
    clear Q_FG
    have R1 := Aside0.mk (Q_R1 hb1_)
    clear Q_R1
    have R2 := Aside0.mk (Q_R2 hb1_)
    clear Q_R2
    have FL := Aside0.mk (Q_FL hb3_)
    clear Q_FL
    have R3 := Aside0.mk (Q_R3 hb3_)
    clear Q_R3
    have R5 := Aside0.mk (Q_R5 hb5_)
    clear Q_R5
    have B9 := Aside0.mk (Q_B9 hb6_)
    clear Q_B9
    clear Q_G9Z
    have G9 := Aside0.mk (Q_G9 hb8_)
    clear Q_G9
    have B11 := Aside0.mk (Q_B11 hb7_)
    clear Q_B11
    clear Q_G11Z
    have G11 := Aside0.mk (Q_G11 hb10_)
    clear Q_G11
    clear hall hb0_ hb1_ hb2_ hb3_ hb4_ hb5_ hb6_ hb7_ hb8_ hb9_ hb10_
    go_wp2_with fail
    go_meet
    exact ⟨chg_, l_, B1_, B2_, B3_, B5_, j1_, j2_, j3_, j5_, g9_, g11_, rfl, rfl, rfl, FG, FL, R1, R2, R3, R5, G9, G11, FB⟩
 case rest =>
  obtain ⟨chg, l, B1, B2, B3, B5, j1, j2, j3, j5, g9, g11, rfl, rfl, rfl, FG, FL, R1, R2, R3, R5, G9, G11, FB⟩ := hcut
  rename World => W1
  have HB1 := Aside0.mk (below_step HBI.out FB.out)
  obtain ⟨good, hch⟩ := FG.out
  obtain ⟨hl3, hok⟩ := FL.out
  have c1 := Kd.R_reads' R1.out
  have c2 := Kd.R_reads' R2.out
  have c3 := Kd.S_reads' R3.out
  have c5 := Kd.R_reads' R5.out
  have HST := Lib.hid (fun W (hb : Below W1.heap.size W1 W) => sloeStreets_ok B1 B2 j1 j2 first3 chg c1.2.1 c2.2.1 (by decide) (by omega) W (Kd.C_below c1.2.2 hb) (Kd.C_below c2.2.2 hb))
  have HWK := Lib.hid (fun W (hb : Below W1.heap.size W1 W) => sloeWorks_ok B5 j5 ss 1 400 (by have := c5.2.1; omega) (by omega) W (Kd.C_below c5.2.2 hb))
  have HSG := Lib.hid (fun W (hb : Below W1.heap.size W1 W) => irisSigns_ok B3 j3 l c3.2.1 (by omega) (fun x hx => by have := (hok x hx).jb.l1; simp only [jobOf] at this; omega) W (Kd.C_below c3.2.2 hb))
  have HNM := Lib.hid (fun X1 X2 y1 y2 s h a b c d W e f => Name_ok X1 X2 y1 y2 first3 chg good s h a b c d W e f)
  have HMU := Lib.hid (fun X1 X2 X y1 y2 y xs ho hn W e f g => Must_ok X1 X2 X y1 y2 y first3 chg good xs ho hn W e f g)
  have HYR := Lib.hid (fun X1 X2 X3 X y1 y2 y3 y ok z hz hn W e f g h => Year_ok X1 X2 X3 X y1 y2 y3 y first3 chg good ss 1 400 ok z hz hn W e f g h)
  have HOW : Aside0 (OkWorks ss 1 400) := ⟨⟨by omega, by omega, HSS.out, by omega, by omega, by omega⟩⟩
  have HSR := Lib.hid (fun W (hb : Below W1.heap.size W1 W) => sloeStreets_R B1 B2 j1 j2 first3 chg c1.2.1 c2.2.1 (by decide) (by omega) W (Kd.C_below c1.2.2 hb) (Kd.C_below c2.2.2 hb))
  have HWR := Lib.hid (fun W (hb : Below W1.heap.size W1 W) => sloeWorks_R B5 j5 ss 1 400 (by have := c5.2.1; omega) (by omega) W (Kd.C_below c5.2.2 hb))
  rw [hss] at HWK HYR HWR
  rw [show first3.length = 3 from rfl] at HST HNM HMU HYR HSR
  have C3 := Aside0.mk c3.2.2
  have N3 := Aside0.mk (Kd.F_bound (Kd.S_F R3.out))
  have HFL : Aside0 (0 < l.length → ∃ gl, B3 = some ⟨gl, 0, none⟩ ∧ gl < W1.heap.size) := ⟨fun hp => by
   obtain ⟨gl, _, e, _, hg, _⟩ := Kd.S_form R3.out hp
   cases e
   exact ⟨gl, rfl, hg⟩⟩
  have HGD := Aside0.mk good
  have HOK := Aside0.mk hok
  have HH1 := Aside0.mk (blk_below HBH.out FB.out)
  have hg9 : g9 < W1.heap.size := blk_lt G9.out
  have hg11 : g11 < W1.heap.size := blk_lt G11.out
  have hgH : w.heap.size < W1.heap.size := blk_lt HH1.out
  clear FG FL R1 R2 R3 R5 FB HBI HBH HBO HTM HIM HIW HSS good hok c1 c2 c3 c5
  have HHS : Aside0 (∀ m < 3, W1.cell? ⟨w.heap.size, m, none⟩ = some (.int .u8 (([h0, h1, h2] : List Int).getD m 0)) ∧ OkByte (([h0, h1, h2] : List Int).getD m 0)) := ⟨fun m hm => by
   have : m = 0 ∨ m = 1 ∨ m = 2 := by omega
   rcases this with rfl | rfl | rfl
   ·exact ⟨(blk_cell HH1.out 0).trans rfl, bh0⟩
   ·exact ⟨(blk_cell HH1.out 1).trans rfl, bh1⟩
   ·exact ⟨(blk_cell HH1.out 2).trans rfl, bh2⟩⟩
  generalize [h0, h1, h2] = hs at HHS
  generalize w.heap.size = gH at HHS hgH ⊢
  clear HH1 bh0 bh1 bh2 bo0 bo1 bo2 bo3 bo4 bo5
  go_wp2_with fail
  have HE := Aside0.mk (R_empty k49 49 W1 (fun _ => True) trivial)
  have HBE := Aside0.mk (below_alloc (Below.refl W1.heap.size W1) (.cells #[] 49))
  go_loopw [12, 13, 14, 15] (fun s12 s13 _ _ wr => ∃ m : Nat, m ≤ l.length ∧ s13 = .int .i64 m ∧ Aside0 (k49.R 49 wr W1.heap.size (fun _ => True) s12 (ordK chg l hs m)) ∧ Aside0 (Below W1.heap.size W1 wr)) (fun _ s13 _ _ _ => l.length - (intOf s13).toNat)
  case atStart => exact ⟨0, Nat.zero_le _, rfl, HE, HBE⟩
  case round =>
   clear HE HBE
   obtain ⟨m, hm, rfl, HO, HBi⟩ := hrel
   rename World => wi
   by_cases hlt : m < l.length
   ·have hltz : (m : Int) < (l.length : Int) := by omega
    have hm0 : (0 : Int) ≤ (m : Int) := by omega
    have hm3 : (m : Int) < 3 := by omega
    obtain ⟨gl, rfl, hgl⟩ := HFL.out (by omega)
    obtain ⟨Ax, cx, y0, y1, _, _⟩ := sign_cells C3.out m hlt
    obtain ⟨zh1, bh⟩ := HHS.out m (by omega)
    have hx := HOK.out l[m] (List.getElem_mem hlt)
    have HOS := Aside0.mk (ordK_succ chg l hs m hlt)
    have hol := ordK_length chg l hs m
    unfold orderOf at HOS
    generalize hs.getD m 0 = hv at zh1 bh HOS
    generalize l[m] = x at y0 y1 hx HOS
    obtain ⟨st, la, ft, co⟩ := x
    simp only at y0 y1 HOS
    have st0 := hx.st1
    have st1 := hx.st2
    simp only at st0 st1
    obtain ⟨hh0, hh1⟩ := hourOf_b hv
    have hb1 := bh.1
    have hb2 := bh.2
    have hmod : Int.tmod (4 * hv) 1001 = hourOf hv := tmod_pos (by omega)
    have hwb : IntKind.i64.wrap hv = hv := by rw [IntKind.wrap_i64]; omega
    have hw4 : IntKind.i64.wrap (4 * hv) = 4 * hv := by rw [IntKind.wrap_i64]; omega
    generalize hourOf hv = hh at hh0 hh1 hmod HOS
    have hBs := HBi.out.size
    have x0 := (HBi.out.cell (p := ⟨gl, m * 4, none⟩) hgl).trans y0
    have x1 := (HBi.out.cell (p := ⟨gl, m * 4 + 1, none⟩) hgl).trans y1
    have zh := (HBi.out.cell (p := ⟨gH, m, none⟩) hgH).trans zh1
    have BG9 := blk_below G9.out HBi.out
    have p0 : wi.cell? ⟨g9, 0, none⟩ = some (.slice B1 3 j1) := (blk_cell BG9 0).trans rfl
    have p1 : wi.cell? ⟨g9, 1, none⟩ = some (.slice B2 chg.length j2) := (blk_cell BG9 1).trans rfl
    replace hgl : gl < wi.heap.size := by omega
    have hg9i : g9 < wi.heap.size := by omega
    have hgHi : gH < wi.heap.size := by omega
    clear y0 y1 zh1 bh hx BG9 hb1 hb2
    go_upto_region 6 with fail
    go_cut [14, 15] from 49 to 65 (fun s14 s15 wx => s14 = .string (nameAt first3 chg st hh) ∧ s15 = .int .i64 0 ∧ Aside0 (Below wi.heap.size wi wx))
    case first =>
     clear_value *
     as_aux_lemma =>
      have hg9 := hg9i
      have hgH := hgHi
      clear HOS HO x1
      refine start_ (n := 19) (S := fun w' => True) (ds := []) #[false, false, false, false, false, false, false, false, false, false, false, false, false, false, false, false, false, false, false] (by kernel_rfl) rfl rfl trivial (fun hHeld => ?_)
      refine with_tabW fired.tab6 fired.bits6 (fun HT_ HW_ => ?_)
      have FB := Aside0.mk (below_drew (Below.refl wi.heap.size wi))
      generalize wi.drew = w8 at FB ⊢
      refine inv_at [0, 1, 2, 3, 4, 5, 6, 7, 8, 9, 10, 11, 12, 13, 14, 15, 16, 17, 18] (fun a0_ b a w' => ∃ (D1_ : Option Addr) (k1_ : Nat) (D2_ : Option Addr) (k2_ : Nat) (m1_ : Value), a = putSel a0_ b [(0, 50, .agg #[.slice B1 3 j1, .slice B2 chg.length j2]), (1, 51, m1_), (2, 52, .slice (some ⟨gl, 0, none⟩) l.length j3), (3, 53, .int .i64 m), (4, 54, .pointer (some ⟨gl, m * 4, none⟩)), (5, 55, .pointer (some ⟨gl, m * 4, none⟩)), (6, 56, .int .i64 st), (7, 57, .int .i64 m), (8, 58, .pointer (some ⟨gH, m, none⟩)), (9, 59, .int .u8 hv), (10, 60, .int .i64 hv), (11, 61, .int .i64 (4 * hv)), (12, 62, .int .i64 hh), (13, 63, .tuple #[.string (nameAt first3 chg st hh), .int .i64 0]), (14, 49, .tuple #[.string (nameAt first3 chg st hh), .int .i64 0]), (15, 64, .string (nameAt first3 chg st hh)), (16, 65, .int .i64 0), (17, 14, .string (nameAt first3 chg st hh)), (18, 15, .int .i64 0)] ∧ (Below wi.heap.size wi w') ∧ (b 1 = true → Kd.string.C w' D1_ 3 first3) ∧ (b 1 = true → k64.C w' D2_ chg.length chg) ∧ (b 1 = true → (m1_ : Value) = .agg #[.slice D1_ 3 k1_, .slice D2_ chg.length k2_])) HT_.out HW_.out (by kernel_rfl) (by kernel_rfl) ?_ ?_ ?_
      ·exact ⟨none, 0, none, 0, .bool false, by simp only [putSel, Bool.false_eq_true, if_false], FB.out, fun h_ => absurd h_ (by decide), fun h_ => absurd h_ (by decide), fun h_ => absurd h_ (by decide)⟩
      ·skip
       clear FB
       refine steps_cons ?_ ?_
       ·rintro b a w' ⟨D1_, k1_, D2_, k2_, m1_, ha, Q_FB, Q_S1, Q_S2, Q_X1_⟩ hb_ hon hoff
        refine ⟨_, rfl, fun K hK => ?_⟩
        have e9 : a.tmps[9]? = some (.pointer (some ⟨g9, 0, none⟩)) := by rw [ha]; exact (putSel_off rfl).trans rfl
        replace ha := Aside0.mk ha
        have FB := Aside0.mk Q_FB
        have p0c_ := (FB.out.cell (p := ⟨g9, 0, none⟩) hg9).trans p0
        have p1c_ := (FB.out.cell (p := ⟨g9, 1, none⟩) hg9).trans p1
        refine value_ (w1 := w') (v := .agg #[.slice B1 3 j1, .slice B2 chg.length j2]) (by rfl) rfl ?_ ?_
        ·go_simp
         (try simp only [i64_w])
         try rfl
        refine hK.out _ _ ⟨D1_, k1_, D2_, k2_, m1_, (by rw [ha.out]; exact putSel_upk 0 hb_ rfl rfl rfl), Q_FB, fun h0_ => absurd ((hoff 1 (by kernel_rfl)).symm.trans h0_) (by decide), fun h0_ => absurd ((hoff 1 (by kernel_rfl)).symm.trans h0_) (by decide), fun h0_ => absurd ((hoff 1 (by kernel_rfl)).symm.trans h0_) (by decide)⟩
       refine steps_cons ?_ ?_
       ·rintro b a w' ⟨D1_, k1_, D2_, k2_, m1_, ha, Q_FB, Q_S1, Q_S2, Q_X1_⟩ hb_ hon hoff
        refine ⟨_, rfl, fun K hK => ?_⟩
        have e50 : a.tmps[50]? = some (.agg #[.slice B1 3 j1, .slice B2 chg.length j2]) := by rw [ha]; exact putSel_on (e := (0, 50, .agg #[.slice B1 3 j1, .slice B2 chg.length j2])) 0 rfl rfl (hon 0 (by kernel_rfl)) rfl
        replace ha := Aside0.mk ha
        have FB := Aside0.mk Q_FB
        refine goes_ Tryz.func8 (by kernel_rfl) rfl #[.agg #[.slice B1 3 j1, .slice B2 chg.length j2]] (by rfl) rfl rfl (by first | rfl | (simp [Act.eval, e50]; done)) ?_
        refine (HST.out w' (below_step HBi.out FB.out)).mono ?_
        rintro e w2_ ⟨X1, X2, y1, y2, rfl, hk1, hk2, hs1, hs2, hbN⟩
        refine ⟨_, rfl, ?_⟩
        refine hK.out _ _ ⟨X1, y1, X2, y2, (.agg #[.slice X1 3 y1, .slice X2 chg.length y2]), (by rw [ha.out]; exact putSel_upk 1 hb_ rfl rfl rfl), FB.out.trans (hbN.mono FB.out.size), fun _ => hs1, fun _ => hs2, fun _ => rfl⟩
       refine steps_cons ?_ ?_
       ·rintro b a w' ⟨D1_, k1_, D2_, k2_, m1_, ha, Q_FB, Q_S1, Q_S2, Q_X1_⟩ hb_ hon hoff
        refine ⟨_, rfl, fun K hK => ?_⟩
        have e10 : a.tmps[10]? = some (.slice (some ⟨gl, 0, none⟩) l.length j3) := by rw [ha]; exact (putSel_off rfl).trans rfl
        replace ha := Aside0.mk ha
        refine value_ (w1 := w') (v := .slice (some ⟨gl, 0, none⟩) l.length j3) (by rfl) rfl ?_ ?_
        ·go_simp
         (try simp only [i64_w])
         try rfl
        refine hK.out _ _ ⟨D1_, k1_, D2_, k2_, m1_, (by rw [ha.out]; exact putSel_upk 2 hb_ rfl rfl rfl), Q_FB, Q_S1, Q_S2, Q_X1_⟩
       refine steps_cons ?_ ?_
       ·rintro b a w' ⟨D1_, k1_, D2_, k2_, m1_, ha, Q_FB, Q_S1, Q_S2, Q_X1_⟩ hb_ hon hoff
        refine ⟨_, rfl, fun K hK => ?_⟩
        have e13 : a.tmps[13]? = some (.int .i64 m) := by rw [ha]; exact (putSel_off rfl).trans rfl
        replace ha := Aside0.mk ha
        refine value_ (w1 := w') (v := .int .i64 m) (by rfl) rfl ?_ ?_
        ·go_simp
         (try simp only [i64_w])
         try rfl
        refine hK.out _ _ ⟨D1_, k1_, D2_, k2_, m1_, (by rw [ha.out]; exact putSel_upk 3 hb_ rfl rfl rfl), Q_FB, Q_S1, Q_S2, Q_X1_⟩
       refine steps_cons ?_ ?_
       ·rintro b a w' ⟨D1_, k1_, D2_, k2_, m1_, ha, Q_FB, Q_S1, Q_S2, Q_X1_⟩ hb_ hon hoff
        refine ⟨_, rfl, fun K hK => ?_⟩
        have e52 : a.tmps[52]? = some (.slice (some ⟨gl, 0, none⟩) l.length j3) := by rw [ha]; exact putSel_on (e := (2, 52, .slice (some ⟨gl, 0, none⟩) l.length j3)) 2 rfl rfl (hon 2 (by kernel_rfl)) rfl
        have e53 : a.tmps[53]? = some (.int .i64 m) := by rw [ha]; exact putSel_on (e := (3, 53, .int .i64 m)) 3 rfl rfl (hon 3 (by kernel_rfl)) rfl
        replace ha := Aside0.mk ha
        refine value_ (w1 := w') (v := .pointer (some ⟨gl, m * 4, none⟩)) (by rfl) rfl ?_ ?_
        ·go_simp
         (try simp only [i64_w])
         try rfl
        refine hK.out _ _ ⟨D1_, k1_, D2_, k2_, m1_, (by rw [ha.out]; exact putSel_upk 4 hb_ rfl rfl rfl), Q_FB, Q_S1, Q_S2, Q_X1_⟩
       refine steps_cons ?_ ?_
       ·rintro b a w' ⟨D1_, k1_, D2_, k2_, m1_, ha, Q_FB, Q_S1, Q_S2, Q_X1_⟩ hb_ hon hoff
        refine ⟨_, rfl, fun K hK => ?_⟩
        have e54 : a.tmps[54]? = some (.pointer (some ⟨gl, m * 4, none⟩)) := by rw [ha]; exact putSel_on (e := (4, 54, .pointer (some ⟨gl, m * 4, none⟩))) 4 rfl rfl (hon 4 (by kernel_rfl)) rfl
        replace ha := Aside0.mk ha
        refine value_ (w1 := w') (v := .pointer (some ⟨gl, m * 4, none⟩)) (by rfl) rfl ?_ ?_
        ·go_simp
         (try simp only [i64_w])
         try rfl
        refine hK.out _ _ ⟨D1_, k1_, D2_, k2_, m1_, (by rw [ha.out]; exact putSel_upk 5 hb_ rfl rfl rfl), Q_FB, Q_S1, Q_S2, Q_X1_⟩
       refine steps_cons ?_ ?_
       ·rintro b a w' ⟨D1_, k1_, D2_, k2_, m1_, ha, Q_FB, Q_S1, Q_S2, Q_X1_⟩ hb_ hon hoff
        refine ⟨_, rfl, fun K hK => ?_⟩
        have e55 : a.tmps[55]? = some (.pointer (some ⟨gl, m * 4, none⟩)) := by rw [ha]; exact putSel_on (e := (5, 55, .pointer (some ⟨gl, m * 4, none⟩))) 5 rfl rfl (hon 5 (by kernel_rfl)) rfl
        replace ha := Aside0.mk ha
        have FB := Aside0.mk Q_FB
        have x0_ := (FB.out.cell (p := ⟨gl, m * 4, none⟩) hgl).trans x0
        refine value_ (w1 := w') (v := .int .i64 st) (by rfl) rfl ?_ ?_
        ·go_simp
         (try simp only [i64_w])
         try rfl
        refine hK.out _ _ ⟨D1_, k1_, D2_, k2_, m1_, (by rw [ha.out]; exact putSel_upk 6 hb_ rfl rfl rfl), Q_FB, Q_S1, Q_S2, Q_X1_⟩
       refine steps_cons ?_ ?_
       ·rintro b a w' ⟨D1_, k1_, D2_, k2_, m1_, ha, Q_FB, Q_S1, Q_S2, Q_X1_⟩ hb_ hon hoff
        refine ⟨_, rfl, fun K hK => ?_⟩
        have e13 : a.tmps[13]? = some (.int .i64 m) := by rw [ha]; exact (putSel_off rfl).trans rfl
        replace ha := Aside0.mk ha
        refine value_ (w1 := w') (v := .int .i64 m) (by rfl) rfl ?_ ?_
        ·go_simp
         (try simp only [i64_w])
         try rfl
        refine hK.out _ _ ⟨D1_, k1_, D2_, k2_, m1_, (by rw [ha.out]; exact putSel_upk 7 hb_ rfl rfl rfl), Q_FB, Q_S1, Q_S2, Q_X1_⟩
       refine steps_cons ?_ ?_
       ·rintro b a w' ⟨D1_, k1_, D2_, k2_, m1_, ha, Q_FB, Q_S1, Q_S2, Q_X1_⟩ hb_ hon hoff
        refine ⟨_, rfl, fun K hK => ?_⟩
        have e6 : a.tmps[6]? = some (.pointer (some ⟨gH, 0, none⟩)) := by rw [ha]; exact (putSel_off rfl).trans rfl
        have e57 : a.tmps[57]? = some (.int .i64 m) := by rw [ha]; exact putSel_on (e := (7, 57, .int .i64 m)) 7 rfl rfl (hon 7 (by kernel_rfl)) rfl
        replace ha := Aside0.mk ha
        refine value_ (w1 := w') (v := .pointer (some ⟨gH, m, none⟩)) (by rfl) rfl ?_ ?_
        ·go_simp
         (try simp only [i64_w])
         try rfl
        refine hK.out _ _ ⟨D1_, k1_, D2_, k2_, m1_, (by rw [ha.out]; exact putSel_upk 8 hb_ rfl rfl rfl), Q_FB, Q_S1, Q_S2, Q_X1_⟩
       refine steps_cons ?_ ?_
       ·rintro b a w' ⟨D1_, k1_, D2_, k2_, m1_, ha, Q_FB, Q_S1, Q_S2, Q_X1_⟩ hb_ hon hoff
        refine ⟨_, rfl, fun K hK => ?_⟩
        have e58 : a.tmps[58]? = some (.pointer (some ⟨gH, m, none⟩)) := by rw [ha]; exact putSel_on (e := (8, 58, .pointer (some ⟨gH, m, none⟩))) 8 rfl rfl (hon 8 (by kernel_rfl)) rfl
        replace ha := Aside0.mk ha
        have FB := Aside0.mk Q_FB
        have h0_ := (FB.out.cell (p := ⟨gH, m, none⟩) hgH).trans zh
        refine value_ (w1 := w') (v := .int .u8 hv) (by rfl) rfl ?_ ?_
        ·go_simp
         (try simp only [i64_w])
         try rfl
        refine hK.out _ _ ⟨D1_, k1_, D2_, k2_, m1_, (by rw [ha.out]; exact putSel_upk 9 hb_ rfl rfl rfl), Q_FB, Q_S1, Q_S2, Q_X1_⟩
       refine steps_cons ?_ ?_
       ·rintro b a w' ⟨D1_, k1_, D2_, k2_, m1_, ha, Q_FB, Q_S1, Q_S2, Q_X1_⟩ hb_ hon hoff
        refine ⟨_, rfl, fun K hK => ?_⟩
        have e59 : a.tmps[59]? = some (.int .u8 hv) := by rw [ha]; exact putSel_on (e := (9, 59, .int .u8 hv)) 9 rfl rfl (hon 9 (by kernel_rfl)) rfl
        replace ha := Aside0.mk ha
        refine value_ (w1 := w') (v := .int .i64 hv) (by rfl) rfl ?_ ?_
        ·go_simp
         (try simp only [i64_w])
         try rfl
        refine hK.out _ _ ⟨D1_, k1_, D2_, k2_, m1_, (by rw [ha.out]; exact putSel_upk 10 hb_ rfl rfl rfl), Q_FB, Q_S1, Q_S2, Q_X1_⟩
       refine steps_cons ?_ ?_
       ·rintro b a w' ⟨D1_, k1_, D2_, k2_, m1_, ha, Q_FB, Q_S1, Q_S2, Q_X1_⟩ hb_ hon hoff
        refine ⟨_, rfl, fun K hK => ?_⟩
        have e60 : a.tmps[60]? = some (.int .i64 hv) := by rw [ha]; exact putSel_on (e := (10, 60, .int .i64 hv)) 10 rfl rfl (hon 10 (by kernel_rfl)) rfl
        replace ha := Aside0.mk ha
        refine value_ (w1 := w') (v := .int .i64 (4 * hv)) (by rfl) rfl ?_ ?_
        ·go_simp
         (try simp only [i64_w])
         try rfl
        refine hK.out _ _ ⟨D1_, k1_, D2_, k2_, m1_, (by rw [ha.out]; exact putSel_upk 11 hb_ rfl rfl rfl), Q_FB, Q_S1, Q_S2, Q_X1_⟩
       refine steps_cons ?_ ?_
       ·rintro b a w' ⟨D1_, k1_, D2_, k2_, m1_, ha, Q_FB, Q_S1, Q_S2, Q_X1_⟩ hb_ hon hoff
        refine ⟨_, rfl, fun K hK => ?_⟩
        have e61 : a.tmps[61]? = some (.int .i64 (4 * hv)) := by rw [ha]; exact putSel_on (e := (11, 61, .int .i64 (4 * hv))) 11 rfl rfl (hon 11 (by kernel_rfl)) rfl
        replace ha := Aside0.mk ha
        refine value_ (w1 := w') (v := .int .i64 hh) (by rfl) rfl ?_ ?_
        ·go_simp
         (try simp only [i64_w])
         try rfl
        refine hK.out _ _ ⟨D1_, k1_, D2_, k2_, m1_, (by rw [ha.out]; exact putSel_upk 12 hb_ rfl rfl rfl), Q_FB, Q_S1, Q_S2, Q_X1_⟩
       refine steps_cons ?_ ?_
       ·rintro b a w' ⟨D1_, k1_, D2_, k2_, m1_, ha, Q_FB, Q_S1, Q_S2, Q_X1_⟩ hb_ hon hoff
        refine ⟨_, rfl, fun K hK => ?_⟩
        have e51 : a.tmps[51]? = some (m1_) := by rw [ha]; exact putSel_on (e := (1, 51, m1_)) 1 rfl rfl (hon 1 (by kernel_rfl)) rfl
        rw [Q_X1_ (hon 1 (by kernel_rfl))] at e51
        have e56 : a.tmps[56]? = some (.int .i64 st) := by rw [ha]; exact putSel_on (e := (6, 56, .int .i64 st)) 6 rfl rfl (hon 6 (by kernel_rfl)) rfl
        have e62 : a.tmps[62]? = some (.int .i64 hh) := by rw [ha]; exact putSel_on (e := (12, 62, .int .i64 hh)) 12 rfl rfl (hon 12 (by kernel_rfl)) rfl
        replace ha := Aside0.mk ha
        have FB := Aside0.mk Q_FB
        have S1 := Aside0.mk (Q_S1 (hon 1 (by kernel_rfl)))
        have S2 := Aside0.mk (Q_S2 (hon 1 (by kernel_rfl)))
        refine goes_ Tryz.func7 (by kernel_rfl) rfl #[.agg #[.slice D1_ 3 k1_, .slice D2_ chg.length k2_], .int .i64 st, .int .i64 hh] (by rfl) rfl rfl (by first | rfl | (simp [Act.eval, e51, e56, e62]; done)) ?_
        refine (HNM.out D1_ D2_ k1_ k2_ st hh st0 st1 hh0 hh1 w' S1.out S2.out).mono ?_
        rintro e w2_ ⟨rfl, hbN⟩
        refine ⟨_, rfl, ?_⟩
        refine hK.out _ _ ⟨D1_, k1_, D2_, k2_, m1_, (by rw [ha.out]; exact putSel_upk 13 hb_ rfl rfl rfl), FB.out.trans (hbN.mono FB.out.size), fun _ => Kd.C_below S1.out hbN, fun _ => Kd.C_below S2.out hbN, Q_X1_⟩
       refine steps_cons ?_ ?_
       ·rintro b a w' ⟨D1_, k1_, D2_, k2_, m1_, ha, Q_FB, Q_S1, Q_S2, Q_X1_⟩ hb_ hon hoff
        refine ⟨_, rfl, fun K hK => ?_⟩
        have e63 : a.tmps[63]? = some (.tuple #[.string (nameAt first3 chg st hh), .int .i64 0]) := by rw [ha]; exact putSel_on (e := (13, 63, .tuple #[.string (nameAt first3 chg st hh), .int .i64 0])) 13 rfl rfl (hon 13 (by kernel_rfl)) rfl
        replace ha := Aside0.mk ha
        refine value_ (w1 := w') (v := .tuple #[.string (nameAt first3 chg st hh), .int .i64 0]) (by rfl) rfl ?_ ?_
        ·go_simp
         (try simp only [i64_w])
         try rfl
        refine hK.out _ _ ⟨D1_, k1_, D2_, k2_, m1_, (by rw [ha.out]; exact putSel_upk 14 hb_ rfl rfl rfl), Q_FB, Q_S1, Q_S2, Q_X1_⟩
       refine steps_cons ?_ ?_
       ·rintro b a w' ⟨D1_, k1_, D2_, k2_, m1_, ha, Q_FB, Q_S1, Q_S2, Q_X1_⟩ hb_ hon hoff
        refine ⟨_, rfl, fun K hK => ?_⟩
        have e49 : a.tmps[49]? = some (.tuple #[.string (nameAt first3 chg st hh), .int .i64 0]) := by rw [ha]; exact putSel_on (e := (14, 49, .tuple #[.string (nameAt first3 chg st hh), .int .i64 0])) 14 rfl rfl (hon 14 (by kernel_rfl)) rfl
        replace ha := Aside0.mk ha
        refine value_ (w1 := w') (v := .string (nameAt first3 chg st hh)) (by rfl) rfl ?_ ?_
        ·go_simp
         (try simp only [i64_w])
         try rfl
        refine hK.out _ _ ⟨D1_, k1_, D2_, k2_, m1_, (by rw [ha.out]; exact putSel_upk 15 hb_ rfl rfl rfl), Q_FB, Q_S1, Q_S2, Q_X1_⟩
       refine steps_cons ?_ ?_
       ·rintro b a w' ⟨D1_, k1_, D2_, k2_, m1_, ha, Q_FB, Q_S1, Q_S2, Q_X1_⟩ hb_ hon hoff
        refine ⟨_, rfl, fun K hK => ?_⟩
        have e49 : a.tmps[49]? = some (.tuple #[.string (nameAt first3 chg st hh), .int .i64 0]) := by rw [ha]; exact putSel_on (e := (14, 49, .tuple #[.string (nameAt first3 chg st hh), .int .i64 0])) 14 rfl rfl (hon 14 (by kernel_rfl)) rfl
        replace ha := Aside0.mk ha
        refine value_ (w1 := w') (v := .int .i64 0) (by rfl) rfl ?_ ?_
        ·go_simp
         (try simp only [i64_w])
         try rfl
        refine hK.out _ _ ⟨D1_, k1_, D2_, k2_, m1_, (by rw [ha.out]; exact putSel_upk 16 hb_ rfl rfl rfl), Q_FB, Q_S1, Q_S2, Q_X1_⟩
       refine steps_cons ?_ ?_
       ·rintro b a w' ⟨D1_, k1_, D2_, k2_, m1_, ha, Q_FB, Q_S1, Q_S2, Q_X1_⟩ hb_ hon hoff
        refine ⟨_, rfl, fun K hK => ?_⟩
        have e64 : a.tmps[64]? = some (.string (nameAt first3 chg st hh)) := by rw [ha]; exact putSel_on (e := (15, 64, .string (nameAt first3 chg st hh))) 15 rfl rfl (hon 15 (by kernel_rfl)) rfl
        replace ha := Aside0.mk ha
        refine value_ (w1 := w') (v := .string (nameAt first3 chg st hh)) (by rfl) rfl ?_ ?_
        ·go_simp
         (try simp only [i64_w])
         try rfl
        refine hK.out _ _ ⟨D1_, k1_, D2_, k2_, m1_, (by rw [ha.out]; exact putSel_upk 17 hb_ rfl rfl rfl), Q_FB, Q_S1, Q_S2, Q_X1_⟩
       refine steps_cons ?_ ?_
       ·rintro b a w' ⟨D1_, k1_, D2_, k2_, m1_, ha, Q_FB, Q_S1, Q_S2, Q_X1_⟩ hb_ hon hoff
        refine ⟨_, rfl, fun K hK => ?_⟩
        have e65 : a.tmps[65]? = some (.int .i64 0) := by rw [ha]; exact putSel_on (e := (16, 65, .int .i64 0)) 16 rfl rfl (hon 16 (by kernel_rfl)) rfl
        replace ha := Aside0.mk ha
        refine value_ (w1 := w') (v := .int .i64 0) (by rfl) rfl ?_ ?_
        ·go_simp
         (try simp only [i64_w])
         try rfl
        refine hK.out _ _ ⟨D1_, k1_, D2_, k2_, m1_, (by rw [ha.out]; exact putSel_upk 18 hb_ rfl rfl rfl), Q_FB, Q_S1, Q_S2, Q_X1_⟩
       exact steps_nil
      ·rintro b a w' hall ⟨D1_, k1_, D2_, k2_, m1_, ha, Q_FB, Q_S1, Q_S2, Q_X1_⟩
       clear FB
       have hb0_ := hall 0 (by kernel_rfl)
       have hb1_ := hall 1 (by kernel_rfl)
       have hb2_ := hall 2 (by kernel_rfl)
       have hb3_ := hall 3 (by kernel_rfl)
       have hb4_ := hall 4 (by kernel_rfl)
       have hb5_ := hall 5 (by kernel_rfl)
       have hb6_ := hall 6 (by kernel_rfl)
       have hb7_ := hall 7 (by kernel_rfl)
       have hb8_ := hall 8 (by kernel_rfl)
       have hb9_ := hall 9 (by kernel_rfl)
       have hb10_ := hall 10 (by kernel_rfl)
       have hb11_ := hall 11 (by kernel_rfl)
       have hb12_ := hall 12 (by kernel_rfl)
       have hb13_ := hall 13 (by kernel_rfl)
       have hb14_ := hall 14 (by kernel_rfl)
       have hb15_ := hall 15 (by kernel_rfl)
       have hb16_ := hall 16 (by kernel_rfl)
       have hb17_ := hall 17 (by kernel_rfl)
       have hb18_ := hall 18 (by kernel_rfl)
       subst ha
       obtain rfl := Q_X1_ hb1_
       simp only [putSel, hb0_, hb1_, hb2_, hb3_, hb4_, hb5_, hb6_, hb7_, hb8_, hb9_, hb10_, hb11_, hb12_, hb13_, hb14_, hb15_, hb16_, hb17_, hb18_, if_true, Act.put, List.setIfInBounds_toArray, List.set_cons_zero, List.set_cons_succ]
       have FB := Aside0.mk Q_FB
       clear Q_FB
       have S1 := Aside0.mk (Q_S1 hb1_)
       clear Q_S1
       have S2 := Aside0.mk (Q_S2 hb1_)
       clear Q_S2
       clear hall hb0_ hb1_ hb2_ hb3_ hb4_ hb5_ hb6_ hb7_ hb8_ hb9_ hb10_ hb11_ hb12_ hb13_ hb14_ hb15_ hb16_ hb17_ hb18_
       go_wp2_with fail
       go_meet
       exact ⟨rfl, rfl, FB⟩
    case rest =>
     obtain ⟨rfl, rfl, FB6⟩ := hcut
     rename World => wz
     have HBz := Aside0.mk (below_step HBi.out FB6.out)
     have HOz := Aside0.mk (Kd.R_below HO.out FB6.out)
     have q0 := (FB6.out.cell (p := ⟨gl, m * 4, none⟩) hgl).trans x0
     have q1 := (FB6.out.cell (p := ⟨gl, m * 4 + 1, none⟩) hgl).trans x1
     have hwz := HBz.out.size
     generalize nameAt first3 chg st hh = nm at HOS ⊢
     clear x0 x1 zh p0 p1 FB6 HBi HO hmod hwb hw4 hh0 hh1 st0 st1
     go_wp2_with fail
     go_region_law (first
      | (refine Kd.R_append_step k49 (w0 := W1) (W := wz.drew) W1.heap.size (by rfl) (.tmp 68) (.tmp 81) 40 49 (.agg #[.int .i64 0, .int .i64 0, .string ⟨#[]⟩]) 32 rfl Tryz.underlying40 infoOrder rfl (by decide) (by decide) u12 (ordK chg l hs m) ⟨st, la, nm⟩ [.int .i64 st, .int .i64 la, .string nm] (fun _ => True) (fun _ => False) rfl rfl (k49_mkM _ _ _ _) (fun _ hk_ => hk_.elim) (fun _ _ => trivial) (Kd.R_drew HOz.out) (below_drew HBz.out) hwz (by omega) ?_; intro v9 w9 ho hb _ _; have HO9 := Aside0.mk ho; have HB9 := Aside0.mk hb; clear ho hb))
     all_goals
      go_wp2
      go_roundw
      case rel => exact ⟨m + 1, by omega, by go_num, ⟨by rw [HOS.out]; exact HO9.out⟩, HB9⟩
      case measure => simp [intOf]; omega
   ·obtain rfl : m = l.length := by omega
    have hltz : ¬ (l.length : Int) < (l.length : Int) := by omega
    have hlo := ordK_length chg l hs l.length
    have hso := ordK_says chg l hs
    have HOO := Aside0.mk (ordK_ok HGD.out l HOK.out hs)
    generalize ordK chg l hs l.length = os at HO hlo hso HOO
    obtain ⟨A12, c12, e12⟩ := Kd.R_slice HO.out
    rw [hlo] at e12
    subst e12
    have hco := (Kd.R_reads' HO.out).2.2
    rw [hlo] at hco
    have HCI := Aside0.mk hco
    have HLO := Aside0.mk hlo
    clear hco hlo
    have BG9 := blk_below G9.out HBi.out
    have p0 : wi.cell? ⟨g9, 0, none⟩ = some (.slice B1 3 j1) := (blk_cell BG9 0).trans rfl
    have p1 : wi.cell? ⟨g9, 1, none⟩ = some (.slice B2 chg.length j2) := (blk_cell BG9 1).trans rfl
    clear BG9
    go_wp2_with fail
    refine (HST.out wi HBi.out).mono ?_
    rintro e w2 ⟨X1, X2, y1, y2, rfl, _, _, hs1, hs2, hb2⟩
    have HCO := Aside0.mk (Kd.C_below HCI.out hb2)
    have HB2 := Aside0.mk (below_step HBi.out hb2)
    have HS1 := Aside0.mk hs1
    have HS2 := Aside0.mk hs2
    clear hs1 hs2 hb2 p0 p1 HO HBi HCI
    go_wp2_with (at_builtin; refine Kd.R_append_rows k49 (w0 := w2) w2.heap.size rfl (.tmp 86) (.tmp 87) 40 49 (.agg #[.int .i64 0, .int .i64 0, .string ⟨#[]⟩]) 32 rfl Tryz.underlying40 infoOrder rfl (by decide) (by omega) _ [] os _ _ _ (fun _ => True) (fun _ => False) rfl rfl (R_empty k49 49 w2 _ trivial) (Kd.C_alloc HCO.out _) (fun x cs h => by rw [k49_open h]; exact k49_mkM _ _ _ _) (fun _ h => h.elim) (fun _ _ => trivial) ((Below.refl _ w2).alloc (Nat.le_refl _) _) (by simp) (by simp; omega) ?_; intro v3 w3 hv hb _ _; have HV3 := Aside0.mk hv; have HB3 := Aside0.mk hb; clear hv hb)
    rw [List.nil_append] at HV3
    obtain ⟨A13, c13, e13⟩ := Kd.R_slice HV3.out
    rw [e13] at HV3
    have hlo := HLO.out
    have hmu := HMU.out X1 X2 A13 y1 y2 c13 os HOO.out (by omega) w3 (Kd.C_below HS1.out HB3.out) (Kd.C_below HS2.out HB3.out) (Kd.R_reads' HV3.out).2.2
    rw [hlo] at hmu e13
    subst e13
    refine hmu.mono ?_
    rintro e wi ⟨v16, v17, rfl, hv16, hv17, hb4⟩
    rw [hso] at hv16
    have hag1 := againK_length (fun o => nameAt first3 chg o.f0 o.f1) os os.length
    have hag2 := againK_lt (fun o => nameAt first3 chg o.f0 o.f1) os os.length
    rw [hlo] at hag1 hag2
    have HBi := Aside0.mk (below_step (below_step HB2.out HB3.out) hb4)
    generalize againK (fun o => nameAt first3 chg o.f0 o.f1) os l.length = ag at hv17 hag1 hag2
    obtain ⟨A16, c16, rfl, _, hM16, hF16⟩ := R_row hv16
    obtain ⟨A17, c17, rfl, _, hM17, hF17⟩ := R_row hv17
    rw [saysOf_length] at hM16 hF16
    rw [ints_length] at hM17 hF17
    rw [saysOf_length, ints_length]
    have M16 := Aside0.mk hM16
    have M17 := Aside0.mk hM17
    have F16 := Aside0.mk hF16
    have F17 := Aside0.mk hF17
    have HAG := Aside0.mk hag2
    clear hmu hso HOO HLO hlo HS1 HS2 HB2 HV3 HB3 HCO hv16 hv17 hb4 hag2 hM16 hM17 hF16 hF17
    have hBs := HBi.out.size
    have BG9 := blk_below G9.out HBi.out
    have BG11 := blk_below G11.out HBi.out
    have p0 : wi.cell? ⟨g9, 0, none⟩ = some (.slice B1 3 j1) := (blk_cell BG9 0).trans rfl
    have p1 : wi.cell? ⟨g9, 1, none⟩ = some (.slice B2 chg.length j2) := (blk_cell BG9 1).trans rfl
    have q0 : wi.cell? ⟨g11, 0, none⟩ = some (.slice B5 3 j5) := (blk_cell BG11 0).trans rfl
    have q1 : wi.cell? ⟨g11, 1, none⟩ = some (.int .i64 1) := (blk_cell BG11 1).trans rfl
    have q2 : wi.cell? ⟨g11, 2, none⟩ = some (.int .i64 400) := (blk_cell BG11 2).trans rfl
    have hg9i : g9 < wi.heap.size := by omega
    have hg11i : g11 < wi.heap.size := by omega
    clear BG9 BG11
    go_upto_region 11 with fail
    go_cut [19, 20, 21] from 93 to 103 (fun s19 s20 s21 wx => ∃ (E1 E2 : Option Addr) (n1 n2 : Nat), s19 = .slice E1 l.length n1 ∧ s20 = .slice E2 3 n2 ∧ s21 = .int .i64 0 ∧ Aside0 (Kd.string.R 9 wx wi.heap.size (fun _ => True) (.slice E1 l.length n1) (saysOf chg l)) ∧ Aside0 (k58.R 58 wx wi.heap.size (fun _ => True) (.slice E2 3 n2) (usesS ss l)) ∧ Aside0 (Below wi.heap.size wi wx))
    case first =>
     clear_value *
     as_aux_lemma =>
      have hg9 := hg9i
      have hg11 := hg11i
      clear M16 M17 F16 F17 HAG
      refine start_ (n := 14) (S := fun w' => True) (ds := []) #[false, false, false, false, false, false, false, false, false, false, false, false, false, false] (by kernel_rfl) rfl rfl trivial (fun hHeld => ?_)
      refine with_tabW fired.tab11 fired.bits11 (fun HT_ HW_ => ?_)
      have FB := Aside0.mk (below_drew (Below.refl wi.heap.size wi))
      generalize wi.drew = w8 at FB ⊢
      refine inv_at [0, 1, 2, 3, 4, 5, 6, 7, 8, 9, 10, 11, 12, 13] (fun a0_ b a w' => ∃ (D1_ : Option Addr) (k1_ : Nat) (D2_ : Option Addr) (k2_ : Nat) (D5_ : Option Addr) (k5_ : Nat) (D3_ : Option Addr) (k3_ : Nat) (E1_ : Option Addr) (q1_ : Nat) (E2_ : Option Addr) (q2_ : Nat) (m1_ : Value) (m3_ : Value) (m5_ : Value) (m6_ : Value) (m7_ : Value) (m8_ : Value) (m9_ : Value) (m11_ : Value) (m12_ : Value), a = putSel a0_ b [(0, 94, .agg #[.slice B1 3 j1, .slice B2 chg.length j2]), (1, 95, m1_), (2, 96, .agg #[.slice B5 3 j5, .int .i64 1, .int .i64 400]), (3, 97, m3_), (4, 98, .slice B3 l.length j3), (5, 99, m5_), (6, 100, m6_), (7, 93, m7_), (8, 101, m8_), (9, 102, m9_), (10, 103, .int .i64 0), (11, 19, m11_), (12, 20, m12_), (13, 21, .int .i64 0)] ∧ (Below wi.heap.size wi w') ∧ (b 1 = true → Kd.string.C w' D1_ 3 first3) ∧ (b 1 = true → k64.C w' D2_ chg.length chg) ∧ (b 3 = true → k67.C w' D5_ 3 ss) ∧ (b 5 = true → k47.C w' D3_ l.length l) ∧ (b 6 = true → Kd.string.R 9 w' wi.heap.size (fun _ => True) (.slice E1_ l.length q1_) (saysOf chg l)) ∧ (b 6 = true → k58.R 58 w' wi.heap.size (fun _ => True) (.slice E2_ 3 q2_) (usesS ss l)) ∧ (b 1 = true → (m1_ : Value) = .agg #[.slice D1_ 3 k1_, .slice D2_ chg.length k2_]) ∧ (b 3 = true → (m3_ : Value) = .agg #[.slice D5_ 3 k5_, .int .i64 1, .int .i64 400]) ∧ (b 5 = true → (m5_ : Value) = .slice D3_ l.length k3_) ∧ (b 6 = true → (m6_ : Value) = .tuple #[.slice E1_ l.length q1_, .slice E2_ 3 q2_, .int .i64 0]) ∧ (b 7 = true → (m7_ : Value) = .tuple #[.slice E1_ l.length q1_, .slice E2_ 3 q2_, .int .i64 0]) ∧ (b 8 = true → (m8_ : Value) = .slice E1_ l.length q1_) ∧ (b 9 = true → (m9_ : Value) = .slice E2_ 3 q2_) ∧ (b 11 = true → (m11_ : Value) = .slice E1_ l.length q1_) ∧ (b 12 = true → (m12_ : Value) = .slice E2_ 3 q2_)) HT_.out HW_.out (by kernel_rfl) (by kernel_rfl) ?_ ?_ ?_
      ·exact ⟨none, 0, none, 0, none, 0, none, 0, none, 0, none, 0, .bool false, .bool false, .bool false, .bool false, .bool false, .bool false, .bool false, .bool false, .bool false, by simp only [putSel, Bool.false_eq_true, if_false], FB.out, fun h_ => absurd h_ (by decide), fun h_ => absurd h_ (by decide), fun h_ => absurd h_ (by decide), fun h_ => absurd h_ (by decide), fun h_ => absurd h_ (by decide), fun h_ => absurd h_ (by decide), fun h_ => absurd h_ (by decide), fun h_ => absurd h_ (by decide), fun h_ => absurd h_ (by decide), fun h_ => absurd h_ (by decide), fun h_ => absurd h_ (by decide), fun h_ => absurd h_ (by decide), fun h_ => absurd h_ (by decide), fun h_ => absurd h_ (by decide), fun h_ => absurd h_ (by decide)⟩
      ·skip
       clear FB
       refine steps_cons ?_ ?_
       ·rintro b a w' ⟨D1_, k1_, D2_, k2_, D5_, k5_, D3_, k3_, E1_, q1_, E2_, q2_, m1_, m3_, m5_, m6_, m7_, m8_, m9_, m11_, m12_, ha, Q_FB, Q_S1, Q_S2, Q_S5, Q_S3, Q_Y1, Q_Y2, Q_X1_, Q_X3_, Q_X5_, Q_X6_, Q_X7_, Q_X8_, Q_X9_, Q_X11_, Q_X12_⟩ hb_ hon hoff
        refine ⟨_, rfl, fun K hK => ?_⟩
        have e9 : a.tmps[9]? = some (.pointer (some ⟨g9, 0, none⟩)) := by rw [ha]; exact (putSel_off rfl).trans rfl
        replace ha := Aside0.mk ha
        have FB := Aside0.mk Q_FB
        have p0c_ := (FB.out.cell (p := ⟨g9, 0, none⟩) hg9).trans p0
        have p1c_ := (FB.out.cell (p := ⟨g9, 1, none⟩) hg9).trans p1
        refine value_ (w1 := w') (v := .agg #[.slice B1 3 j1, .slice B2 chg.length j2]) (by rfl) rfl ?_ ?_
        ·go_simp
         (try simp only [i64_w])
         try rfl
        refine hK.out _ _ ⟨D1_, k1_, D2_, k2_, D5_, k5_, D3_, k3_, E1_, q1_, E2_, q2_, m1_, m3_, m5_, m6_, m7_, m8_, m9_, m11_, m12_, (by rw [ha.out]; exact putSel_upk 0 hb_ rfl rfl rfl), Q_FB, fun h0_ => absurd ((hoff 1 (by kernel_rfl)).symm.trans h0_) (by decide), fun h0_ => absurd ((hoff 1 (by kernel_rfl)).symm.trans h0_) (by decide), fun h0_ => absurd ((hoff 3 (by kernel_rfl)).symm.trans h0_) (by decide), fun h0_ => absurd ((hoff 5 (by kernel_rfl)).symm.trans h0_) (by decide), fun h0_ => absurd ((hoff 6 (by kernel_rfl)).symm.trans h0_) (by decide), fun h0_ => absurd ((hoff 6 (by kernel_rfl)).symm.trans h0_) (by decide), fun h0_ => absurd ((hoff 1 (by kernel_rfl)).symm.trans h0_) (by decide), fun h0_ => absurd ((hoff 3 (by kernel_rfl)).symm.trans h0_) (by decide), fun h0_ => absurd ((hoff 5 (by kernel_rfl)).symm.trans h0_) (by decide), fun h0_ => absurd ((hoff 6 (by kernel_rfl)).symm.trans h0_) (by decide), fun h0_ => absurd ((hoff 7 (by kernel_rfl)).symm.trans h0_) (by decide), fun h0_ => absurd ((hoff 8 (by kernel_rfl)).symm.trans h0_) (by decide), fun h0_ => absurd ((hoff 9 (by kernel_rfl)).symm.trans h0_) (by decide), fun h0_ => absurd ((hoff 11 (by kernel_rfl)).symm.trans h0_) (by decide), fun h0_ => absurd ((hoff 12 (by kernel_rfl)).symm.trans h0_) (by decide)⟩
       refine steps_cons ?_ ?_
       ·rintro b a w' ⟨D1_, k1_, D2_, k2_, D5_, k5_, D3_, k3_, E1_, q1_, E2_, q2_, m1_, m3_, m5_, m6_, m7_, m8_, m9_, m11_, m12_, ha, Q_FB, Q_S1, Q_S2, Q_S5, Q_S3, Q_Y1, Q_Y2, Q_X1_, Q_X3_, Q_X5_, Q_X6_, Q_X7_, Q_X8_, Q_X9_, Q_X11_, Q_X12_⟩ hb_ hon hoff
        refine ⟨_, rfl, fun K hK => ?_⟩
        have e94 : a.tmps[94]? = some (.agg #[.slice B1 3 j1, .slice B2 chg.length j2]) := by rw [ha]; exact putSel_on (e := (0, 94, .agg #[.slice B1 3 j1, .slice B2 chg.length j2])) 0 rfl rfl (hon 0 (by kernel_rfl)) rfl
        replace ha := Aside0.mk ha
        have FB := Aside0.mk Q_FB
        refine goes_ Tryz.func8 (by kernel_rfl) rfl #[.agg #[.slice B1 3 j1, .slice B2 chg.length j2]] (by rfl) rfl rfl (by first | rfl | (simp [Act.eval, e94]; done)) ?_
        refine (HST.out w' (below_step HBi.out FB.out)).mono ?_
        rintro e w2_ ⟨X1, X2, y1, y2, rfl, hk1, hk2, hs1, hs2, hbN⟩
        refine ⟨_, rfl, ?_⟩
        refine hK.out _ _ ⟨X1, y1, X2, y2, D5_, k5_, D3_, k3_, E1_, q1_, E2_, q2_, (.agg #[.slice X1 3 y1, .slice X2 chg.length y2]), m3_, m5_, m6_, m7_, m8_, m9_, m11_, m12_, (by rw [ha.out]; exact putSel_upk 1 hb_ rfl rfl rfl), FB.out.trans (hbN.mono FB.out.size), fun _ => hs1, fun _ => hs2, fun h0_ => absurd ((hoff 3 (by kernel_rfl)).symm.trans h0_) (by decide), fun h0_ => absurd ((hoff 5 (by kernel_rfl)).symm.trans h0_) (by decide), fun h0_ => absurd ((hoff 6 (by kernel_rfl)).symm.trans h0_) (by decide), fun h0_ => absurd ((hoff 6 (by kernel_rfl)).symm.trans h0_) (by decide), fun _ => rfl, fun h0_ => absurd ((hoff 3 (by kernel_rfl)).symm.trans h0_) (by decide), fun h0_ => absurd ((hoff 5 (by kernel_rfl)).symm.trans h0_) (by decide), fun h0_ => absurd ((hoff 6 (by kernel_rfl)).symm.trans h0_) (by decide), fun h0_ => absurd ((hoff 7 (by kernel_rfl)).symm.trans h0_) (by decide), fun h0_ => absurd ((hoff 8 (by kernel_rfl)).symm.trans h0_) (by decide), fun h0_ => absurd ((hoff 9 (by kernel_rfl)).symm.trans h0_) (by decide), fun h0_ => absurd ((hoff 11 (by kernel_rfl)).symm.trans h0_) (by decide), fun h0_ => absurd ((hoff 12 (by kernel_rfl)).symm.trans h0_) (by decide)⟩
       refine steps_cons ?_ ?_
       ·rintro b a w' ⟨D1_, k1_, D2_, k2_, D5_, k5_, D3_, k3_, E1_, q1_, E2_, q2_, m1_, m3_, m5_, m6_, m7_, m8_, m9_, m11_, m12_, ha, Q_FB, Q_S1, Q_S2, Q_S5, Q_S3, Q_Y1, Q_Y2, Q_X1_, Q_X3_, Q_X5_, Q_X6_, Q_X7_, Q_X8_, Q_X9_, Q_X11_, Q_X12_⟩ hb_ hon hoff
        refine ⟨_, rfl, fun K hK => ?_⟩
        have e11 : a.tmps[11]? = some (.pointer (some ⟨g11, 0, none⟩)) := by rw [ha]; exact (putSel_off rfl).trans rfl
        replace ha := Aside0.mk ha
        have FB := Aside0.mk Q_FB
        have q0c_ := (FB.out.cell (p := ⟨g11, 0, none⟩) hg11).trans q0
        have q1c_ := (FB.out.cell (p := ⟨g11, 1, none⟩) hg11).trans q1
        have q2c_ := (FB.out.cell (p := ⟨g11, 2, none⟩) hg11).trans q2
        refine value_ (w1 := w') (v := .agg #[.slice B5 3 j5, .int .i64 1, .int .i64 400]) (by rfl) rfl ?_ ?_
        ·go_simp
         (try simp only [i64_w])
         try rfl
        refine hK.out _ _ ⟨D1_, k1_, D2_, k2_, D5_, k5_, D3_, k3_, E1_, q1_, E2_, q2_, m1_, m3_, m5_, m6_, m7_, m8_, m9_, m11_, m12_, (by rw [ha.out]; exact putSel_upk 2 hb_ rfl rfl rfl), Q_FB, Q_S1, Q_S2, fun h0_ => absurd ((hoff 3 (by kernel_rfl)).symm.trans h0_) (by decide), fun h0_ => absurd ((hoff 5 (by kernel_rfl)).symm.trans h0_) (by decide), fun h0_ => absurd ((hoff 6 (by kernel_rfl)).symm.trans h0_) (by decide), fun h0_ => absurd ((hoff 6 (by kernel_rfl)).symm.trans h0_) (by decide), Q_X1_, fun h0_ => absurd ((hoff 3 (by kernel_rfl)).symm.trans h0_) (by decide), fun h0_ => absurd ((hoff 5 (by kernel_rfl)).symm.trans h0_) (by decide), fun h0_ => absurd ((hoff 6 (by kernel_rfl)).symm.trans h0_) (by decide), fun h0_ => absurd ((hoff 7 (by kernel_rfl)).symm.trans h0_) (by decide), fun h0_ => absurd ((hoff 8 (by kernel_rfl)).symm.trans h0_) (by decide), fun h0_ => absurd ((hoff 9 (by kernel_rfl)).symm.trans h0_) (by decide), fun h0_ => absurd ((hoff 11 (by kernel_rfl)).symm.trans h0_) (by decide), fun h0_ => absurd ((hoff 12 (by kernel_rfl)).symm.trans h0_) (by decide)⟩
       refine steps_cons ?_ ?_
       ·rintro b a w' ⟨D1_, k1_, D2_, k2_, D5_, k5_, D3_, k3_, E1_, q1_, E2_, q2_, m1_, m3_, m5_, m6_, m7_, m8_, m9_, m11_, m12_, ha, Q_FB, Q_S1, Q_S2, Q_S5, Q_S3, Q_Y1, Q_Y2, Q_X1_, Q_X3_, Q_X5_, Q_X6_, Q_X7_, Q_X8_, Q_X9_, Q_X11_, Q_X12_⟩ hb_ hon hoff
        refine ⟨_, rfl, fun K hK => ?_⟩
        have e96 : a.tmps[96]? = some (.agg #[.slice B5 3 j5, .int .i64 1, .int .i64 400]) := by rw [ha]; exact putSel_on (e := (2, 96, .agg #[.slice B5 3 j5, .int .i64 1, .int .i64 400])) 2 rfl rfl (hon 2 (by kernel_rfl)) rfl
        replace ha := Aside0.mk ha
        have FB := Aside0.mk Q_FB
        have S1 := Aside0.mk (Q_S1 (hon 1 (by kernel_rfl)))
        have S2 := Aside0.mk (Q_S2 (hon 1 (by kernel_rfl)))
        refine goes_ Tryz.func11 (by kernel_rfl) rfl #[.agg #[.slice B5 3 j5, .int .i64 1, .int .i64 400]] (by rfl) rfl rfl (by first | rfl | (simp [Act.eval, e96]; done)) ?_
        refine (HWK.out w' (below_step HBi.out FB.out)).mono ?_
        rintro e w2_ ⟨X5, y5, rfl, hk5, hs5, hbN⟩
        refine ⟨_, rfl, ?_⟩
        refine hK.out _ _ ⟨D1_, k1_, D2_, k2_, X5, y5, D3_, k3_, E1_, q1_, E2_, q2_, m1_, (.agg #[.slice X5 3 y5, .int .i64 1, .int .i64 400]), m5_, m6_, m7_, m8_, m9_, m11_, m12_, (by rw [ha.out]; exact putSel_upk 3 hb_ rfl rfl rfl), FB.out.trans (hbN.mono FB.out.size), fun _ => Kd.C_below S1.out hbN, fun _ => Kd.C_below S2.out hbN, fun _ => hs5, fun h0_ => absurd ((hoff 5 (by kernel_rfl)).symm.trans h0_) (by decide), fun h0_ => absurd ((hoff 6 (by kernel_rfl)).symm.trans h0_) (by decide), fun h0_ => absurd ((hoff 6 (by kernel_rfl)).symm.trans h0_) (by decide), Q_X1_, fun _ => rfl, fun h0_ => absurd ((hoff 5 (by kernel_rfl)).symm.trans h0_) (by decide), fun h0_ => absurd ((hoff 6 (by kernel_rfl)).symm.trans h0_) (by decide), fun h0_ => absurd ((hoff 7 (by kernel_rfl)).symm.trans h0_) (by decide), fun h0_ => absurd ((hoff 8 (by kernel_rfl)).symm.trans h0_) (by decide), fun h0_ => absurd ((hoff 9 (by kernel_rfl)).symm.trans h0_) (by decide), fun h0_ => absurd ((hoff 11 (by kernel_rfl)).symm.trans h0_) (by decide), fun h0_ => absurd ((hoff 12 (by kernel_rfl)).symm.trans h0_) (by decide)⟩
       refine steps_cons ?_ ?_
       ·rintro b a w' ⟨D1_, k1_, D2_, k2_, D5_, k5_, D3_, k3_, E1_, q1_, E2_, q2_, m1_, m3_, m5_, m6_, m7_, m8_, m9_, m11_, m12_, ha, Q_FB, Q_S1, Q_S2, Q_S5, Q_S3, Q_Y1, Q_Y2, Q_X1_, Q_X3_, Q_X5_, Q_X6_, Q_X7_, Q_X8_, Q_X9_, Q_X11_, Q_X12_⟩ hb_ hon hoff
        refine ⟨_, rfl, fun K hK => ?_⟩
        have e10 : a.tmps[10]? = some (.slice B3 l.length j3) := by rw [ha]; exact (putSel_off rfl).trans rfl
        replace ha := Aside0.mk ha
        refine value_ (w1 := w') (v := .slice B3 l.length j3) (by rfl) rfl ?_ ?_
        ·go_simp
         (try simp only [i64_w])
         try rfl
        refine hK.out _ _ ⟨D1_, k1_, D2_, k2_, D5_, k5_, D3_, k3_, E1_, q1_, E2_, q2_, m1_, m3_, m5_, m6_, m7_, m8_, m9_, m11_, m12_, (by rw [ha.out]; exact putSel_upk 4 hb_ rfl rfl rfl), Q_FB, Q_S1, Q_S2, Q_S5, fun h0_ => absurd ((hoff 5 (by kernel_rfl)).symm.trans h0_) (by decide), fun h0_ => absurd ((hoff 6 (by kernel_rfl)).symm.trans h0_) (by decide), fun h0_ => absurd ((hoff 6 (by kernel_rfl)).symm.trans h0_) (by decide), Q_X1_, Q_X3_, fun h0_ => absurd ((hoff 5 (by kernel_rfl)).symm.trans h0_) (by decide), fun h0_ => absurd ((hoff 6 (by kernel_rfl)).symm.trans h0_) (by decide), fun h0_ => absurd ((hoff 7 (by kernel_rfl)).symm.trans h0_) (by decide), fun h0_ => absurd ((hoff 8 (by kernel_rfl)).symm.trans h0_) (by decide), fun h0_ => absurd ((hoff 9 (by kernel_rfl)).symm.trans h0_) (by decide), fun h0_ => absurd ((hoff 11 (by kernel_rfl)).symm.trans h0_) (by decide), fun h0_ => absurd ((hoff 12 (by kernel_rfl)).symm.trans h0_) (by decide)⟩
       refine steps_cons ?_ ?_
       ·rintro b a w' ⟨D1_, k1_, D2_, k2_, D5_, k5_, D3_, k3_, E1_, q1_, E2_, q2_, m1_, m3_, m5_, m6_, m7_, m8_, m9_, m11_, m12_, ha, Q_FB, Q_S1, Q_S2, Q_S5, Q_S3, Q_Y1, Q_Y2, Q_X1_, Q_X3_, Q_X5_, Q_X6_, Q_X7_, Q_X8_, Q_X9_, Q_X11_, Q_X12_⟩ hb_ hon hoff
        refine ⟨_, rfl, fun K hK => ?_⟩
        have e98 : a.tmps[98]? = some (.slice B3 l.length j3) := by rw [ha]; exact putSel_on (e := (4, 98, .slice B3 l.length j3)) 4 rfl rfl (hon 4 (by kernel_rfl)) rfl
        replace ha := Aside0.mk ha
        have FB := Aside0.mk Q_FB
        have S1 := Aside0.mk (Q_S1 (hon 1 (by kernel_rfl)))
        have S2 := Aside0.mk (Q_S2 (hon 1 (by kernel_rfl)))
        have S5 := Aside0.mk (Q_S5 (hon 3 (by kernel_rfl)))
        refine goes_ Tryz.func12 (by kernel_rfl) rfl #[.slice B3 l.length j3] (by rfl) rfl rfl (by first | rfl | (simp [Act.eval, e98]; done)) ?_
        refine (HSG.out w' (below_step HBi.out FB.out)).mono ?_
        rintro e w2_ ⟨u3, rfl, hs3, hbN⟩
        obtain ⟨X3, y3, rfl⟩ := Kd.S_slice hs3
        refine ⟨_, rfl, ?_⟩
        refine hK.out _ _ ⟨D1_, k1_, D2_, k2_, D5_, k5_, X3, y3, E1_, q1_, E2_, q2_, m1_, m3_, (.slice X3 l.length y3), m6_, m7_, m8_, m9_, m11_, m12_, (by rw [ha.out]; exact putSel_upk 5 hb_ rfl rfl rfl), FB.out.trans (hbN.mono FB.out.size), fun _ => Kd.C_below S1.out hbN, fun _ => Kd.C_below S2.out hbN, fun _ => Kd.C_below S5.out hbN, fun _ => (Kd.S_reads' hs3).2.2, fun h0_ => absurd ((hoff 6 (by kernel_rfl)).symm.trans h0_) (by decide), fun h0_ => absurd ((hoff 6 (by kernel_rfl)).symm.trans h0_) (by decide), Q_X1_, Q_X3_, fun _ => rfl, fun h0_ => absurd ((hoff 6 (by kernel_rfl)).symm.trans h0_) (by decide), fun h0_ => absurd ((hoff 7 (by kernel_rfl)).symm.trans h0_) (by decide), fun h0_ => absurd ((hoff 8 (by kernel_rfl)).symm.trans h0_) (by decide), fun h0_ => absurd ((hoff 9 (by kernel_rfl)).symm.trans h0_) (by decide), fun h0_ => absurd ((hoff 11 (by kernel_rfl)).symm.trans h0_) (by decide), fun h0_ => absurd ((hoff 12 (by kernel_rfl)).symm.trans h0_) (by decide)⟩
       refine steps_cons ?_ ?_
       ·rintro b a w' ⟨D1_, k1_, D2_, k2_, D5_, k5_, D3_, k3_, E1_, q1_, E2_, q2_, m1_, m3_, m5_, m6_, m7_, m8_, m9_, m11_, m12_, ha, Q_FB, Q_S1, Q_S2, Q_S5, Q_S3, Q_Y1, Q_Y2, Q_X1_, Q_X3_, Q_X5_, Q_X6_, Q_X7_, Q_X8_, Q_X9_, Q_X11_, Q_X12_⟩ hb_ hon hoff
        refine ⟨_, rfl, fun K hK => ?_⟩
        have e95 : a.tmps[95]? = some (m1_) := by rw [ha]; exact putSel_on (e := (1, 95, m1_)) 1 rfl rfl (hon 1 (by kernel_rfl)) rfl
        rw [Q_X1_ (hon 1 (by kernel_rfl))] at e95
        have e97 : a.tmps[97]? = some (m3_) := by rw [ha]; exact putSel_on (e := (3, 97, m3_)) 3 rfl rfl (hon 3 (by kernel_rfl)) rfl
        rw [Q_X3_ (hon 3 (by kernel_rfl))] at e97
        have e99 : a.tmps[99]? = some (m5_) := by rw [ha]; exact putSel_on (e := (5, 99, m5_)) 5 rfl rfl (hon 5 (by kernel_rfl)) rfl
        rw [Q_X5_ (hon 5 (by kernel_rfl))] at e99
        replace ha := Aside0.mk ha
        have FB := Aside0.mk Q_FB
        have S1 := Aside0.mk (Q_S1 (hon 1 (by kernel_rfl)))
        have S2 := Aside0.mk (Q_S2 (hon 1 (by kernel_rfl)))
        have S5 := Aside0.mk (Q_S5 (hon 3 (by kernel_rfl)))
        have S3 := Aside0.mk (Q_S3 (hon 5 (by kernel_rfl)))
        refine goes_ Tryz.func10 (by kernel_rfl) rfl #[.agg #[.slice D1_ 3 k1_, .slice D2_ chg.length k2_], .agg #[.slice D5_ 3 k5_, .int .i64 1, .int .i64 400], .slice D3_ l.length k3_] (by rfl) rfl rfl (by first | rfl | (simp [Act.eval, e95, e97, e99]; done)) ?_
        refine (HYR.out D1_ D2_ D5_ D3_ k1_ k2_ k5_ k3_ HOW.out l HOK.out (by omega) w' S1.out S2.out S5.out S3.out).mono ?_
        rintro e w2_ ⟨u1, u2, rfl, hr1, hr2, hbN⟩
        replace hr1 : Kd.string.R 9 w2_ w'.heap.size (fun _ => True) u1 (saysOf chg l) := hr1
        replace hr2 : k58.R 58 w2_ w'.heap.size (fun _ => True) u2 (usesS ss l) := hr2
        obtain ⟨Z1, n1, rfl⟩ := Kd.R_slice hr1
        obtain ⟨Z2, n2, rfl⟩ := Kd.R_slice hr2
        rw [saysOf_length] at hr1 ⊢
        rw [usesS_length, hss] at hr2 ⊢
        refine ⟨_, rfl, ?_⟩
        refine hK.out _ _ ⟨D1_, k1_, D2_, k2_, D5_, k5_, D3_, k3_, Z1, n1, Z2, n2, m1_, m3_, m5_, (.tuple #[.slice Z1 l.length n1, .slice Z2 3 n2, .int .i64 0]), m7_, m8_, m9_, m11_, m12_, (by rw [ha.out]; exact putSel_upk 6 hb_ rfl rfl rfl), FB.out.trans (hbN.mono FB.out.size), fun _ => Kd.C_below S1.out hbN, fun _ => Kd.C_below S2.out hbN, fun _ => Kd.C_below S5.out hbN, fun _ => Kd.C_below S3.out hbN, fun _ => Kd.R_lower hr1 FB.out.size, fun _ => Kd.R_lower hr2 FB.out.size, Q_X1_, Q_X3_, Q_X5_, fun _ => rfl, fun h0_ => absurd ((hoff 7 (by kernel_rfl)).symm.trans h0_) (by decide), fun h0_ => absurd ((hoff 8 (by kernel_rfl)).symm.trans h0_) (by decide), fun h0_ => absurd ((hoff 9 (by kernel_rfl)).symm.trans h0_) (by decide), fun h0_ => absurd ((hoff 11 (by kernel_rfl)).symm.trans h0_) (by decide), fun h0_ => absurd ((hoff 12 (by kernel_rfl)).symm.trans h0_) (by decide)⟩
       refine steps_cons ?_ ?_
       ·rintro b a w' ⟨D1_, k1_, D2_, k2_, D5_, k5_, D3_, k3_, E1_, q1_, E2_, q2_, m1_, m3_, m5_, m6_, m7_, m8_, m9_, m11_, m12_, ha, Q_FB, Q_S1, Q_S2, Q_S5, Q_S3, Q_Y1, Q_Y2, Q_X1_, Q_X3_, Q_X5_, Q_X6_, Q_X7_, Q_X8_, Q_X9_, Q_X11_, Q_X12_⟩ hb_ hon hoff
        refine ⟨_, rfl, fun K hK => ?_⟩
        have e100 : a.tmps[100]? = some (m6_) := by rw [ha]; exact putSel_on (e := (6, 100, m6_)) 6 rfl rfl (hon 6 (by kernel_rfl)) rfl
        rw [Q_X6_ (hon 6 (by kernel_rfl))] at e100
        replace ha := Aside0.mk ha
        refine value_ (w1 := w') (v := .tuple #[.slice E1_ l.length q1_, .slice E2_ 3 q2_, .int .i64 0]) (by rfl) rfl ?_ ?_
        ·go_simp
         (try simp only [i64_w])
         try rfl
        refine hK.out _ _ ⟨D1_, k1_, D2_, k2_, D5_, k5_, D3_, k3_, E1_, q1_, E2_, q2_, m1_, m3_, m5_, m6_, (.tuple #[.slice E1_ l.length q1_, .slice E2_ 3 q2_, .int .i64 0]), m8_, m9_, m11_, m12_, (by rw [ha.out]; exact putSel_upk 7 hb_ rfl rfl rfl), Q_FB, Q_S1, Q_S2, Q_S5, Q_S3, Q_Y1, Q_Y2, Q_X1_, Q_X3_, Q_X5_, Q_X6_, fun _ => rfl, fun h0_ => absurd ((hoff 8 (by kernel_rfl)).symm.trans h0_) (by decide), fun h0_ => absurd ((hoff 9 (by kernel_rfl)).symm.trans h0_) (by decide), fun h0_ => absurd ((hoff 11 (by kernel_rfl)).symm.trans h0_) (by decide), fun h0_ => absurd ((hoff 12 (by kernel_rfl)).symm.trans h0_) (by decide)⟩
       refine steps_cons ?_ ?_
       ·rintro b a w' ⟨D1_, k1_, D2_, k2_, D5_, k5_, D3_, k3_, E1_, q1_, E2_, q2_, m1_, m3_, m5_, m6_, m7_, m8_, m9_, m11_, m12_, ha, Q_FB, Q_S1, Q_S2, Q_S5, Q_S3, Q_Y1, Q_Y2, Q_X1_, Q_X3_, Q_X5_, Q_X6_, Q_X7_, Q_X8_, Q_X9_, Q_X11_, Q_X12_⟩ hb_ hon hoff
        refine ⟨_, rfl, fun K hK => ?_⟩
        have e93 : a.tmps[93]? = some (m7_) := by rw [ha]; exact putSel_on (e := (7, 93, m7_)) 7 rfl rfl (hon 7 (by kernel_rfl)) rfl
        rw [Q_X7_ (hon 7 (by kernel_rfl))] at e93
        replace ha := Aside0.mk ha
        refine value_ (w1 := w') (v := .slice E1_ l.length q1_) (by rfl) rfl ?_ ?_
        ·go_simp
         (try simp only [i64_w])
         try rfl
        refine hK.out _ _ ⟨D1_, k1_, D2_, k2_, D5_, k5_, D3_, k3_, E1_, q1_, E2_, q2_, m1_, m3_, m5_, m6_, m7_, (.slice E1_ l.length q1_), m9_, m11_, m12_, (by rw [ha.out]; exact putSel_upk 8 hb_ rfl rfl rfl), Q_FB, Q_S1, Q_S2, Q_S5, Q_S3, Q_Y1, Q_Y2, Q_X1_, Q_X3_, Q_X5_, Q_X6_, Q_X7_, fun _ => rfl, Q_X9_, fun h0_ => absurd ((hoff 11 (by kernel_rfl)).symm.trans h0_) (by decide), fun h0_ => absurd ((hoff 12 (by kernel_rfl)).symm.trans h0_) (by decide)⟩
       refine steps_cons ?_ ?_
       ·rintro b a w' ⟨D1_, k1_, D2_, k2_, D5_, k5_, D3_, k3_, E1_, q1_, E2_, q2_, m1_, m3_, m5_, m6_, m7_, m8_, m9_, m11_, m12_, ha, Q_FB, Q_S1, Q_S2, Q_S5, Q_S3, Q_Y1, Q_Y2, Q_X1_, Q_X3_, Q_X5_, Q_X6_, Q_X7_, Q_X8_, Q_X9_, Q_X11_, Q_X12_⟩ hb_ hon hoff
        refine ⟨_, rfl, fun K hK => ?_⟩
        have e93 : a.tmps[93]? = some (m7_) := by rw [ha]; exact putSel_on (e := (7, 93, m7_)) 7 rfl rfl (hon 7 (by kernel_rfl)) rfl
        rw [Q_X7_ (hon 7 (by kernel_rfl))] at e93
        replace ha := Aside0.mk ha
        refine value_ (w1 := w') (v := .slice E2_ 3 q2_) (by rfl) rfl ?_ ?_
        ·go_simp
         (try simp only [i64_w])
         try rfl
        refine hK.out _ _ ⟨D1_, k1_, D2_, k2_, D5_, k5_, D3_, k3_, E1_, q1_, E2_, q2_, m1_, m3_, m5_, m6_, m7_, m8_, (.slice E2_ 3 q2_), m11_, m12_, (by rw [ha.out]; exact putSel_upk 9 hb_ rfl rfl rfl), Q_FB, Q_S1, Q_S2, Q_S5, Q_S3, Q_Y1, Q_Y2, Q_X1_, Q_X3_, Q_X5_, Q_X6_, Q_X7_, Q_X8_, fun _ => rfl, Q_X11_, fun h0_ => absurd ((hoff 12 (by kernel_rfl)).symm.trans h0_) (by decide)⟩
       refine steps_cons ?_ ?_
       ·rintro b a w' ⟨D1_, k1_, D2_, k2_, D5_, k5_, D3_, k3_, E1_, q1_, E2_, q2_, m1_, m3_, m5_, m6_, m7_, m8_, m9_, m11_, m12_, ha, Q_FB, Q_S1, Q_S2, Q_S5, Q_S3, Q_Y1, Q_Y2, Q_X1_, Q_X3_, Q_X5_, Q_X6_, Q_X7_, Q_X8_, Q_X9_, Q_X11_, Q_X12_⟩ hb_ hon hoff
        refine ⟨_, rfl, fun K hK => ?_⟩
        have e93 : a.tmps[93]? = some (m7_) := by rw [ha]; exact putSel_on (e := (7, 93, m7_)) 7 rfl rfl (hon 7 (by kernel_rfl)) rfl
        rw [Q_X7_ (hon 7 (by kernel_rfl))] at e93
        replace ha := Aside0.mk ha
        refine value_ (w1 := w') (v := .int .i64 0) (by rfl) rfl ?_ ?_
        ·go_simp
         (try simp only [i64_w])
         try rfl
        refine hK.out _ _ ⟨D1_, k1_, D2_, k2_, D5_, k5_, D3_, k3_, E1_, q1_, E2_, q2_, m1_, m3_, m5_, m6_, m7_, m8_, m9_, m11_, m12_, (by rw [ha.out]; exact putSel_upk 10 hb_ rfl rfl rfl), Q_FB, Q_S1, Q_S2, Q_S5, Q_S3, Q_Y1, Q_Y2, Q_X1_, Q_X3_, Q_X5_, Q_X6_, Q_X7_, Q_X8_, Q_X9_, Q_X11_, Q_X12_⟩
       refine steps_cons ?_ ?_
       ·rintro b a w' ⟨D1_, k1_, D2_, k2_, D5_, k5_, D3_, k3_, E1_, q1_, E2_, q2_, m1_, m3_, m5_, m6_, m7_, m8_, m9_, m11_, m12_, ha, Q_FB, Q_S1, Q_S2, Q_S5, Q_S3, Q_Y1, Q_Y2, Q_X1_, Q_X3_, Q_X5_, Q_X6_, Q_X7_, Q_X8_, Q_X9_, Q_X11_, Q_X12_⟩ hb_ hon hoff
        refine ⟨_, rfl, fun K hK => ?_⟩
        have e101 : a.tmps[101]? = some (m8_) := by rw [ha]; exact putSel_on (e := (8, 101, m8_)) 8 rfl rfl (hon 8 (by kernel_rfl)) rfl
        rw [Q_X8_ (hon 8 (by kernel_rfl))] at e101
        replace ha := Aside0.mk ha
        refine value_ (w1 := w') (v := .slice E1_ l.length q1_) (by rfl) rfl ?_ ?_
        ·go_simp
         (try simp only [i64_w])
         try rfl
        refine hK.out _ _ ⟨D1_, k1_, D2_, k2_, D5_, k5_, D3_, k3_, E1_, q1_, E2_, q2_, m1_, m3_, m5_, m6_, m7_, m8_, m9_, (.slice E1_ l.length q1_), m12_, (by rw [ha.out]; exact putSel_upk 11 hb_ rfl rfl rfl), Q_FB, Q_S1, Q_S2, Q_S5, Q_S3, Q_Y1, Q_Y2, Q_X1_, Q_X3_, Q_X5_, Q_X6_, Q_X7_, Q_X8_, Q_X9_, fun _ => rfl, fun h0_ => absurd ((hoff 12 (by kernel_rfl)).symm.trans h0_) (by decide)⟩
       refine steps_cons ?_ ?_
       ·rintro b a w' ⟨D1_, k1_, D2_, k2_, D5_, k5_, D3_, k3_, E1_, q1_, E2_, q2_, m1_, m3_, m5_, m6_, m7_, m8_, m9_, m11_, m12_, ha, Q_FB, Q_S1, Q_S2, Q_S5, Q_S3, Q_Y1, Q_Y2, Q_X1_, Q_X3_, Q_X5_, Q_X6_, Q_X7_, Q_X8_, Q_X9_, Q_X11_, Q_X12_⟩ hb_ hon hoff
        refine ⟨_, rfl, fun K hK => ?_⟩
        have e102 : a.tmps[102]? = some (m9_) := by rw [ha]; exact putSel_on (e := (9, 102, m9_)) 9 rfl rfl (hon 9 (by kernel_rfl)) rfl
        rw [Q_X9_ (hon 9 (by kernel_rfl))] at e102
        replace ha := Aside0.mk ha
        refine value_ (w1 := w') (v := .slice E2_ 3 q2_) (by rfl) rfl ?_ ?_
        ·go_simp
         (try simp only [i64_w])
         try rfl
        refine hK.out _ _ ⟨D1_, k1_, D2_, k2_, D5_, k5_, D3_, k3_, E1_, q1_, E2_, q2_, m1_, m3_, m5_, m6_, m7_, m8_, m9_, m11_, (.slice E2_ 3 q2_), (by rw [ha.out]; exact putSel_upk 12 hb_ rfl rfl rfl), Q_FB, Q_S1, Q_S2, Q_S5, Q_S3, Q_Y1, Q_Y2, Q_X1_, Q_X3_, Q_X5_, Q_X6_, Q_X7_, Q_X8_, Q_X9_, Q_X11_, fun _ => rfl⟩
       refine steps_cons ?_ ?_
       ·rintro b a w' ⟨D1_, k1_, D2_, k2_, D5_, k5_, D3_, k3_, E1_, q1_, E2_, q2_, m1_, m3_, m5_, m6_, m7_, m8_, m9_, m11_, m12_, ha, Q_FB, Q_S1, Q_S2, Q_S5, Q_S3, Q_Y1, Q_Y2, Q_X1_, Q_X3_, Q_X5_, Q_X6_, Q_X7_, Q_X8_, Q_X9_, Q_X11_, Q_X12_⟩ hb_ hon hoff
        refine ⟨_, rfl, fun K hK => ?_⟩
        have e103 : a.tmps[103]? = some (.int .i64 0) := by rw [ha]; exact putSel_on (e := (10, 103, .int .i64 0)) 10 rfl rfl (hon 10 (by kernel_rfl)) rfl
        replace ha := Aside0.mk ha
        refine value_ (w1 := w') (v := .int .i64 0) (by rfl) rfl ?_ ?_
        ·go_simp
         (try simp only [i64_w])
         try rfl
        refine hK.out _ _ ⟨D1_, k1_, D2_, k2_, D5_, k5_, D3_, k3_, E1_, q1_, E2_, q2_, m1_, m3_, m5_, m6_, m7_, m8_, m9_, m11_, m12_, (by rw [ha.out]; exact putSel_upk 13 hb_ rfl rfl rfl), Q_FB, Q_S1, Q_S2, Q_S5, Q_S3, Q_Y1, Q_Y2, Q_X1_, Q_X3_, Q_X5_, Q_X6_, Q_X7_, Q_X8_, Q_X9_, Q_X11_, Q_X12_⟩
       exact steps_nil
      ·rintro b a w' hall ⟨D1_, k1_, D2_, k2_, D5_, k5_, D3_, k3_, E1_, q1_, E2_, q2_, m1_, m3_, m5_, m6_, m7_, m8_, m9_, m11_, m12_, ha, Q_FB, Q_S1, Q_S2, Q_S5, Q_S3, Q_Y1, Q_Y2, Q_X1_, Q_X3_, Q_X5_, Q_X6_, Q_X7_, Q_X8_, Q_X9_, Q_X11_, Q_X12_⟩
       clear FB
       have hb0_ := hall 0 (by kernel_rfl)
       have hb1_ := hall 1 (by kernel_rfl)
       have hb2_ := hall 2 (by kernel_rfl)
       have hb3_ := hall 3 (by kernel_rfl)
       have hb4_ := hall 4 (by kernel_rfl)
       have hb5_ := hall 5 (by kernel_rfl)
       have hb6_ := hall 6 (by kernel_rfl)
       have hb7_ := hall 7 (by kernel_rfl)
       have hb8_ := hall 8 (by kernel_rfl)
       have hb9_ := hall 9 (by kernel_rfl)
       have hb10_ := hall 10 (by kernel_rfl)
       have hb11_ := hall 11 (by kernel_rfl)
       have hb12_ := hall 12 (by kernel_rfl)
       have hb13_ := hall 13 (by kernel_rfl)
       subst ha
       obtain rfl := Q_X1_ hb1_
       obtain rfl := Q_X3_ hb3_
       obtain rfl := Q_X5_ hb5_
       obtain rfl := Q_X6_ hb6_
       obtain rfl := Q_X7_ hb7_
       obtain rfl := Q_X8_ hb8_
       obtain rfl := Q_X9_ hb9_
       obtain rfl := Q_X11_ hb11_
       obtain rfl := Q_X12_ hb12_
       simp only [putSel, hb0_, hb1_, hb2_, hb3_, hb4_, hb5_, hb6_, hb7_, hb8_, hb9_, hb10_, hb11_, hb12_, hb13_, if_true, Act.put, List.setIfInBounds_toArray, List.set_cons_zero, List.set_cons_succ]
       have FB := Aside0.mk Q_FB
       clear Q_FB
       have S1 := Aside0.mk (Q_S1 hb1_)
       clear Q_S1
       have S2 := Aside0.mk (Q_S2 hb1_)
       clear Q_S2
       have S5 := Aside0.mk (Q_S5 hb3_)
       clear Q_S5
       have S3 := Aside0.mk (Q_S3 hb5_)
       clear Q_S3
       have Y1 := Aside0.mk (Q_Y1 hb6_)
       clear Q_Y1
       have Y2 := Aside0.mk (Q_Y2 hb6_)
       clear Q_Y2
       clear hall hb0_ hb1_ hb2_ hb3_ hb4_ hb5_ hb6_ hb7_ hb8_ hb9_ hb10_ hb11_ hb12_ hb13_
       go_wp2_with fail
       go_meet
       exact ⟨E1_, E2_, q1_, q2_, rfl, rfl, rfl, Y1, Y2, FB⟩
    case rest =>
     obtain ⟨E1, E2, n1, n2, rfl, rfl, rfl, Y1, Y2, FB⟩ := hcut
     rename World => wj
     have HBj := Aside0.mk (below_step HBi.out FB.out)
     obtain ⟨_, _, e1, _, hM19, hF19⟩ := R_row Y1.out
     rw [saysOf_length] at e1
     cases e1
     obtain ⟨_, _, e2, _, hM20, hF20⟩ := R_row Y2.out
     rw [usesS_length, hss] at e2
     cases e2
     rw [saysOf_length] at hM19 hF19
     rw [usesS_length, hss] at hM20 hF20
     have M19 := Aside0.mk hM19
     have M20 := Aside0.mk hM20
     have F19 := Aside0.mk hF19
     have F20 := Aside0.mk hF20
     replace M16 := Aside0.mk (Kd.C_below M16.out FB.out)
     replace M17 := Aside0.mk (Kd.C_below M17.out FB.out)
     have hwj := FB.out.size
     replace F16 : Aside0 (0 < l.length → ∃ g, A16 = some ⟨g, 0, none⟩ ∧ g < wj.heap.size) := ⟨fun h => by obtain ⟨g, e, hg⟩ := F16.out h; exact ⟨g, e, by omega⟩⟩
     replace F17 : Aside0 (0 < ag.length → ∃ g, A17 = some ⟨g, 0, none⟩ ∧ g < wj.heap.size) := ⟨fun h => by obtain ⟨g, e, hg⟩ := F17.out h; exact ⟨g, e, by omega⟩⟩
     have hagz : ¬ (l.length : Int) < (ag.length : Int) := by omega
     clear Y1 Y2 FB HBi p0 p1 q0 q1 q2 hM19 hM20 hF19 hF20 hBs hg9i hg11i
     go_wp2_with fail
     go_loopw [22] (fun s22 wr => ∃ m : Nat, m ≤ l.length ∧ s22 = .int .i64 m ∧ Aside0 (Below wj.heap.size wj wr)) (fun s22 _ => l.length - (intOf s22).toNat)
     case atStart => exact ⟨0, Nat.zero_le _, rfl, ⟨Below.refl _ _⟩⟩
     case round =>
      obtain ⟨m, hm, rfl, HBk⟩ := hrel
      rename World => wk
      by_cases hlt : m < l.length
      ·have hltz : (m : Int) < (l.length : Int) := by omega
       have hm0 : (0 : Int) ≤ (m : Int) := by omega
       obtain ⟨g16, rfl, hg16⟩ := F16.out (by omega)
       obtain ⟨g19, rfl, hg19⟩ := F19.out (by omega)
       have x0 := (HBk.out.cell (p := ⟨g16, m, none⟩) hg16).trans (str_read M16.out m hlt)
       have x1 := (HBk.out.cell (p := ⟨g19, m, none⟩) hg19).trans (str_read M19.out m hlt)
       generalize (saysOf chg l).getD m ByteArray.empty = nm at x0 x1
       go_wp2_with fail
       go_quiet (fail)
       go_wp2
       go_roundw
       case rel => exact ⟨m + 1, by omega, by go_num, ⟨pw_below_drewN HBk.out nq⟩⟩
       case measure => simp [intOf]; omega
      ·obtain rfl : m = l.length := by omega
       have hltz : ¬ (l.length : Int) < (l.length : Int) := by omega
       have HBw := Aside0.mk (below_step HBj.out HBk.out)
       have HN0 := Aside0.mk (Kd.N_alloc (Kd.N_lower (Kd.R_N (R_empty k47 47 wk (fun _ => True) trivial)) HBk.out.size) (.cells #[] 49))
       have HZ0 := R_empty k49 49 (wk.alloc (.cells #[] 47)) (fun _ => True) trivial
       have HZ1 := Aside0.mk (Kd.R_lower (base' := wj.heap.size) HZ0 (by have := HBk.out.size; simp; omega))
       rw [World.size_alloc] at HZ1
       have HBl := Aside0.mk (below_alloc (below_alloc HBk.out (.cells #[] 47)) (.cells #[] 49))
       have hjk := HBk.out.size
       clear HZ0 HBk
       go_wp2_with fail
       go_loopw [23, 25, 26] (fun s23 s25 _ wr => ∃ m : Nat, m ≤ ag.length ∧ s25 = .int .i64 m ∧ Aside0 (Kd.N k47 47 wr wj.heap.size (fun _ => True) s23 (anewOf l (ag.take m))) ∧ Aside0 (k49.R 49 wr wj.heap.size (fun _ => True) (.slice (some ⟨wk.heap.size + 1, 0, none⟩) 0 0) []) ∧ Aside0 (Below wj.heap.size wj wr)) (fun _ s25 _ _ => ag.length - (intOf s25).toNat)
       case atStart => exact ⟨0, Nat.zero_le _, rfl, HN0, HZ1, HBl⟩
       case round =>
        clear HN0 HZ1 HBl
        obtain ⟨m, hm, rfl, HN, HZ, HBi⟩ := hrel
        rename World => wi
        by_cases hlt : m < ag.length
        ·have hltz : (m : Int) < (ag.length : Int) := by omega
         have hm0 : (0 : Int) ≤ (m : Int) := by omega
         obtain ⟨g17, rfl, hg17⟩ := F17.out (by omega)
         obtain ⟨gl, rfl, hgl⟩ := HFL.out (by omega)
         have hi := HAG.out ag[m] (List.getElem_mem hlt)
         have x17 := (HBi.out.cell (p := ⟨g17, m, none⟩) hg17).trans (int_read M17.out m hlt)
         have hag : (ints ag).getD m 0 = (ag[m] : Int) := by rw [getD_at _ _ _ (by rw [ints_length]; exact hlt)]; simp [ints]
         rw [hag] at x17
         have HAS := Aside0.mk (anewOf_succ l ag m hlt hi)
         have hal := anewOf_length l (ag.take m)
         rw [List.length_take] at hal
         have HBt := Aside0.mk (below_step HBj.out HBi.out)
         obtain ⟨_, c, eA, _, hFK, hcc, _⟩ := Kd.F_get (Kd.F_below N3.out HBt.out) z47 (ag[m] : Int) (by omega) (by omega)
         cases eA
         rw [Int.toNat_natCast, getD_at l _ _ hi] at hFK
         obtain ⟨Ax, cx, rfl, _, _⟩ := k47_open (Kd.FK_now hFK)
         have y0 := hcc 0 _ rfl
         have y1 := hcc 1 _ rfl
         have y2 := hcc 2 _ rfl
         have y3 := hcc 3 _ rfl
         rw [add_plain, Int.toNat_natCast] at y0 y1 y2 y3
         have HFK := Aside0.mk hFK
         generalize l[ag[m]] = x at y0 y1 y2 y3 HFK HAS
         obtain ⟨st, la, ft, co⟩ := x
         simp only at y0 y1 y2 y3 HFK
         generalize co.length = nc at y3 HFK
         generalize ag[m] = i at hi x17 y0 y1 y2 y3
         have hi0 : ¬ (i : Int) < 0 := by omega
         have hi1 : ¬ (l.length : Int) ≤ (i : Int) := by omega
         have hi2 : (0 : Int) ≤ (i : Int) := by omega
         have hi3 : (i : Int) < (l.length : Int) := by omega
         replace y0 : wi.cell? ⟨gl, i * 4, none⟩ = some (.int .i64 st) := y0
         replace y1 : wi.cell? ⟨gl, i * 4 + 1, none⟩ = some (.int .i64 la) := y1
         replace y2 : wi.cell? ⟨gl, i * 4 + 2, none⟩ = some (.int .i64 ft) := y2
         replace y3 : wi.cell? ⟨gl, i * 4 + 3, none⟩ = some (.slice Ax nc cx) := y3
         clear hcc hFK hag
         go_upto_region 26 with fail
         have BX := blk_new wi (.cells #[.int .i64 st, .int .i64 la, .int .i64 ft, .slice Ax nc cx] 47)
         have z1 : (wi.alloc (.cells #[.int .i64 st, .int .i64 la, .int .i64 ft, .slice Ax nc cx] 47)).cell? ⟨wi.heap.size, 1, none⟩ = some (.int .i64 la) := (blk_cell BX 1).trans rfl
         have f1 := blk_frozen BX 1
         clear BX
         go_upto_region 27 with fail
         have BY := blk_new wi (.cells #[.int .i64 st, .int .i64 1000, .int .i64 ft, .slice Ax nc cx] 47)
         have HBm := below_alloc (Below.refl wi.heap.size wi) (.cells #[.int .i64 st, .int .i64 1000, .int .i64 ft, .slice Ax nc cx] 47)
         generalize wi.alloc (.cells #[.int .i64 st, .int .i64 1000, .int .i64 ft, .slice Ax nc cx] 47) = wm at BY HBm ⊢
         have t0 : wm.cell? ⟨wi.heap.size, 0, none⟩ = some (.int .i64 st) := (blk_cell BY 0).trans rfl
         have t1_ : wm.cell? ⟨wi.heap.size, 1, none⟩ = some (.int .i64 1000) := (blk_cell BY 1).trans rfl
         have t2 : wm.cell? ⟨wi.heap.size, 2, none⟩ = some (.int .i64 ft) := (blk_cell BY 2).trans rfl
         have t3 : wm.cell? ⟨wi.heap.size, 3, none⟩ = some (.slice Ax nc cx) := (blk_cell BY 3).trans rfl
         have HFm := Aside0.mk (Kd.FK_below (FK47_late HFK.out) HBm)
         have HNm := Aside0.mk (Kd.N_below HN.out HBm)
         have HZm := Aside0.mk (Kd.R_below HZ.out HBm)
         have HBjm := Aside0.mk (below_step HBi.out HBm)
         have HBt1 := HBj.out.size
         have hjm := HBjm.out.size
         have HOKP : Aside0 (∀ k, (True ∧ k < W1.heap.size) → True ∧ some k ≠ u23.ownBlock) := ⟨fun k hk => ⟨trivial, fun e => by have := Kd.N_base HNm.out k e.symm; omega⟩⟩
         clear BY HBm z1 f1 HFK HN HZ HBi HBt x17 y0 y1 y2 y3
         go_wp2_with (at_builtin; refine Kd.N_append k47 (w0 := wj) wj.heap.size rfl (.tmp 181) (.tmp 183) 34 47 (.agg #[.int .i64 0, .int .i64 0, .int .i64 0, .slice none 0 0]) 48 rfl Tryz.underlying34 infoSign rfl (by decide) (by decide) u23 (anewOf l (ag.take m)) (late ⟨st, la, ft, co⟩) [.int .i64 st, .int .i64 1000, .int .i64 ft, .slice Ax nc cx] (fun _ => True) (fun k => True ∧ k < W1.heap.size) rfl rfl HFm.out HOKP.out (fun _ _ => trivial) HNm.out HBjm.out hjm (by omega) ?_; intro v9 w9 ho hb hg _; have HN9 := Aside0.mk ho; have HB9 := Aside0.mk hb; have HZ9 := Aside0.mk (Kd.R_over' HZm.out (Kd.N_typed HNm.out) (by decide) hg); clear ho hb hg)
         go_roundw
         case rel => exact ⟨m + 1, by omega, by go_num, ⟨by rw [HAS.out]; exact HN9.out⟩, HZ9, HB9⟩
         case measure => simp [intOf]; omega
        ·obtain rfl : m = ag.length := by omega
         have hltz : ¬ (ag.length : Int) < (ag.length : Int) := by omega
         have han := HN.out
         rw [List.take_length] at han
         have hal := anewOf_length l ag
         have HOA := Aside0.mk (anewOf_ok l HOK.out ag HAG.out)
         generalize anewOf l ag = an at han hal HOA
         obtain ⟨A23, c23, rfl, hc23, hC23⟩ := Kd.N_reads han
         have h24a : wj.heap.size < wk.heap.size + 1 := by omega
         have h24b : wk.heap.size + 1 < wi.heap.size := Kd.R_lt HZ.out _ (by simp [Value.ownBlock])
         generalize wk.heap.size + 1 = g24 at HZ h24a h24b ⊢
         have F23 : Aside0 (0 < an.length → ∃ g, A23 = some ⟨g, 0, none⟩ ∧ g < wi.heap.size ∧ g ≠ g24) := ⟨fun h => by
          obtain ⟨g, _, e, _, hg, cells, hc⟩ := Kd.N_form han h
          obtain ⟨cells', hc'⟩ := Kd.R_typed HZ.out g24 (by simp [Value.ownBlock])
          cases e
          exact ⟨g, rfl, hg, blk_ne hc hc' (by decide)⟩⟩
         have hjw := HBi.out.size
         have hj1 := HBj.out.size
         have FA := Aside0.mk (Kd.F_bound (Kd.N_F han))
         have hok := HOA.out
         have HSA := Lib.hid (fun W (hb : Below wi.heap.size wi W) => irisSigns_ok A23 c23 an hc23 (by omega) (fun x hx => by have := (hok x hx).jb.l1; simp only [jobOf] at this; omega) W (Kd.C_below hC23 hb))
         replace M19 := Aside0.mk (Kd.C_below M19.out HBi.out)
         replace M20 := Aside0.mk (Kd.C_below M20.out HBi.out)
         replace F19 : Aside0 (0 < l.length → ∃ g, E1 = some ⟨g, 0, none⟩ ∧ g < wi.heap.size) := ⟨fun h => by obtain ⟨g, e, hg⟩ := F19.out h; exact ⟨g, e, by omega⟩⟩
         replace F20 : Aside0 (0 < 3 → ∃ g, E2 = some ⟨g, 0, none⟩ ∧ g < wi.heap.size ∧ g ≠ g24) := ⟨fun h => by obtain ⟨g, e, hg⟩ := F20.out h; exact ⟨g, e, by omega⟩⟩
         replace HBi := Aside0.mk (below_step HBj.out HBi.out)
         have HZ9 := Aside0.mk (Kd.R_lower (base' := W1.heap.size) HZ.out hj1)
         clear HZ HN han hok hC23 hc23 M16 M17 F16 F17 HAG HBw HBj N3
         have BG9 := blk_below G9.out HBi.out
         have BG11 := blk_below G11.out HBi.out
         have p0 : wi.cell? ⟨g9, 0, none⟩ = some (.slice B1 3 j1) := (blk_cell BG9 0).trans rfl
         have p1 : wi.cell? ⟨g9, 1, none⟩ = some (.slice B2 chg.length j2) := (blk_cell BG9 1).trans rfl
         have q0 : wi.cell? ⟨g11, 0, none⟩ = some (.slice B5 3 j5) := (blk_cell BG11 0).trans rfl
         have q1 : wi.cell? ⟨g11, 1, none⟩ = some (.int .i64 1) := (blk_cell BG11 1).trans rfl
         have q2 : wi.cell? ⟨g11, 2, none⟩ = some (.int .i64 400) := (blk_cell BG11 2).trans rfl
         have hg9i : g9 < wi.heap.size := by omega
         have hg11i : g11 < wi.heap.size := by omega
         have han3 : an.length ≤ 3 := by omega
         clear BG9 BG11 hagz hag1 hltz hal
         go_upto_region 28 with fail
         go_cut [27, 28, 18] from 185 to 195 (fun s27 s28 s18 wx => ∃ (G1 G2 : Option Addr) (m1 m2 : Nat), s27 = .slice G1 an.length m1 ∧ s28 = .slice G2 3 m2 ∧ s18 = .int .i64 0 ∧ Aside0 (Kd.string.R 9 wx wi.heap.size (fun _ => True) (.slice G1 an.length m1) (saysOf chg an)) ∧ Aside0 (k58.R 58 wx wi.heap.size (fun _ => True) (.slice G2 3 m2) (usesS ss an)) ∧ Aside0 (Below wi.heap.size wi wx))
         case first =>
          clear_value *
          as_aux_lemma =>
           have hg9 := hg9i
           have hg11 := hg11i
           clear M19 M20 F19 F20 FA HZ9
           refine start_ (n := 14) (S := fun w' => True) (ds := []) #[false, false, false, false, false, false, false, false, false, false, false, false, false, false] (by kernel_rfl) rfl rfl trivial (fun hHeld => ?_)
           refine with_tabW fired.tab28 fired.bits28 (fun HT_ HW_ => ?_)
           have FB := Aside0.mk (below_drew (Below.refl wi.heap.size wi))
           generalize wi.drew = w8 at FB ⊢
           refine inv_at [0, 1, 2, 3, 4, 5, 6, 7, 8, 9, 10, 11, 12, 13] (fun a0_ b a w' => ∃ (D1_ : Option Addr) (k1_ : Nat) (D2_ : Option Addr) (k2_ : Nat) (D5_ : Option Addr) (k5_ : Nat) (D3_ : Option Addr) (k3_ : Nat) (E1_ : Option Addr) (q1_ : Nat) (E2_ : Option Addr) (q2_ : Nat) (m1_ : Value) (m3_ : Value) (m5_ : Value) (m6_ : Value) (m7_ : Value) (m8_ : Value) (m9_ : Value) (m11_ : Value) (m12_ : Value), a = putSel a0_ b [(0, 186, .agg #[.slice B1 3 j1, .slice B2 chg.length j2]), (1, 187, m1_), (2, 188, .agg #[.slice B5 3 j5, .int .i64 1, .int .i64 400]), (3, 189, m3_), (4, 190, .slice A23 an.length c23), (5, 191, m5_), (6, 192, m6_), (7, 185, m7_), (8, 193, m8_), (9, 194, m9_), (10, 195, .int .i64 0), (11, 27, m11_), (12, 28, m12_), (13, 18, .int .i64 0)] ∧ (Below wi.heap.size wi w') ∧ (b 1 = true → Kd.string.C w' D1_ 3 first3) ∧ (b 1 = true → k64.C w' D2_ chg.length chg) ∧ (b 3 = true → k67.C w' D5_ 3 ss) ∧ (b 5 = true → k47.C w' D3_ an.length an) ∧ (b 6 = true → Kd.string.R 9 w' wi.heap.size (fun _ => True) (.slice E1_ an.length q1_) (saysOf chg an)) ∧ (b 6 = true → k58.R 58 w' wi.heap.size (fun _ => True) (.slice E2_ 3 q2_) (usesS ss an)) ∧ (b 1 = true → (m1_ : Value) = .agg #[.slice D1_ 3 k1_, .slice D2_ chg.length k2_]) ∧ (b 3 = true → (m3_ : Value) = .agg #[.slice D5_ 3 k5_, .int .i64 1, .int .i64 400]) ∧ (b 5 = true → (m5_ : Value) = .slice D3_ an.length k3_) ∧ (b 6 = true → (m6_ : Value) = .tuple #[.slice E1_ an.length q1_, .slice E2_ 3 q2_, .int .i64 0]) ∧ (b 7 = true → (m7_ : Value) = .tuple #[.slice E1_ an.length q1_, .slice E2_ 3 q2_, .int .i64 0]) ∧ (b 8 = true → (m8_ : Value) = .slice E1_ an.length q1_) ∧ (b 9 = true → (m9_ : Value) = .slice E2_ 3 q2_) ∧ (b 11 = true → (m11_ : Value) = .slice E1_ an.length q1_) ∧ (b 12 = true → (m12_ : Value) = .slice E2_ 3 q2_)) HT_.out HW_.out (by kernel_rfl) (by kernel_rfl) ?_ ?_ ?_
           ·exact ⟨none, 0, none, 0, none, 0, none, 0, none, 0, none, 0, .bool false, .bool false, .bool false, .bool false, .bool false, .bool false, .bool false, .bool false, .bool false, by simp only [putSel, Bool.false_eq_true, if_false], FB.out, fun h_ => absurd h_ (by decide), fun h_ => absurd h_ (by decide), fun h_ => absurd h_ (by decide), fun h_ => absurd h_ (by decide), fun h_ => absurd h_ (by decide), fun h_ => absurd h_ (by decide), fun h_ => absurd h_ (by decide), fun h_ => absurd h_ (by decide), fun h_ => absurd h_ (by decide), fun h_ => absurd h_ (by decide), fun h_ => absurd h_ (by decide), fun h_ => absurd h_ (by decide), fun h_ => absurd h_ (by decide), fun h_ => absurd h_ (by decide), fun h_ => absurd h_ (by decide)⟩
           ·skip
            clear FB
            refine steps_cons ?_ ?_
            ·rintro b a w' ⟨D1_, k1_, D2_, k2_, D5_, k5_, D3_, k3_, E1_, q1_, E2_, q2_, m1_, m3_, m5_, m6_, m7_, m8_, m9_, m11_, m12_, ha, Q_FB, Q_S1, Q_S2, Q_S5, Q_S3, Q_Y1, Q_Y2, Q_X1_, Q_X3_, Q_X5_, Q_X6_, Q_X7_, Q_X8_, Q_X9_, Q_X11_, Q_X12_⟩ hb_ hon hoff
             refine ⟨_, rfl, fun K hK => ?_⟩
             have e9 : a.tmps[9]? = some (.pointer (some ⟨g9, 0, none⟩)) := by rw [ha]; exact (putSel_off rfl).trans rfl
             replace ha := Aside0.mk ha
             have FB := Aside0.mk Q_FB
             have p0c_ := (FB.out.cell (p := ⟨g9, 0, none⟩) hg9).trans p0
             have p1c_ := (FB.out.cell (p := ⟨g9, 1, none⟩) hg9).trans p1
             refine value_ (w1 := w') (v := .agg #[.slice B1 3 j1, .slice B2 chg.length j2]) (by rfl) rfl ?_ ?_
             ·go_simp
              (try simp only [i64_w])
              try rfl
             refine hK.out _ _ ⟨D1_, k1_, D2_, k2_, D5_, k5_, D3_, k3_, E1_, q1_, E2_, q2_, m1_, m3_, m5_, m6_, m7_, m8_, m9_, m11_, m12_, (by rw [ha.out]; exact putSel_upk 0 hb_ rfl rfl rfl), Q_FB, fun h0_ => absurd ((hoff 1 (by kernel_rfl)).symm.trans h0_) (by decide), fun h0_ => absurd ((hoff 1 (by kernel_rfl)).symm.trans h0_) (by decide), fun h0_ => absurd ((hoff 3 (by kernel_rfl)).symm.trans h0_) (by decide), fun h0_ => absurd ((hoff 5 (by kernel_rfl)).symm.trans h0_) (by decide), fun h0_ => absurd ((hoff 6 (by kernel_rfl)).symm.trans h0_) (by decide), fun h0_ => absurd ((hoff 6 (by kernel_rfl)).symm.trans h0_) (by decide), fun h0_ => absurd ((hoff 1 (by kernel_rfl)).symm.trans h0_) (by decide), fun h0_ => absurd ((hoff 3 (by kernel_rfl)).symm.trans h0_) (by decide), fun h0_ => absurd ((hoff 5 (by kernel_rfl)).symm.trans h0_) (by decide), fun h0_ => absurd ((hoff 6 (by kernel_rfl)).symm.trans h0_) (by decide), fun h0_ => absurd ((hoff 7 (by kernel_rfl)).symm.trans h0_) (by decide), fun h0_ => absurd ((hoff 8 (by kernel_rfl)).symm.trans h0_) (by decide), fun h0_ => absurd ((hoff 9 (by kernel_rfl)).symm.trans h0_) (by decide), fun h0_ => absurd ((hoff 11 (by kernel_rfl)).symm.trans h0_) (by decide), fun h0_ => absurd ((hoff 12 (by kernel_rfl)).symm.trans h0_) (by decide)⟩
            refine steps_cons ?_ ?_
            ·rintro b a w' ⟨D1_, k1_, D2_, k2_, D5_, k5_, D3_, k3_, E1_, q1_, E2_, q2_, m1_, m3_, m5_, m6_, m7_, m8_, m9_, m11_, m12_, ha, Q_FB, Q_S1, Q_S2, Q_S5, Q_S3, Q_Y1, Q_Y2, Q_X1_, Q_X3_, Q_X5_, Q_X6_, Q_X7_, Q_X8_, Q_X9_, Q_X11_, Q_X12_⟩ hb_ hon hoff
             refine ⟨_, rfl, fun K hK => ?_⟩
             have e186 : a.tmps[186]? = some (.agg #[.slice B1 3 j1, .slice B2 chg.length j2]) := by rw [ha]; exact putSel_on (e := (0, 186, .agg #[.slice B1 3 j1, .slice B2 chg.length j2])) 0 rfl rfl (hon 0 (by kernel_rfl)) rfl
             replace ha := Aside0.mk ha
             have FB := Aside0.mk Q_FB
             refine goes_ Tryz.func8 (by kernel_rfl) rfl #[.agg #[.slice B1 3 j1, .slice B2 chg.length j2]] (by rfl) rfl rfl (by first | rfl | (simp [Act.eval, e186]; done)) ?_
             refine (HST.out w' (below_step HBi.out FB.out)).mono ?_
             rintro e w2_ ⟨X1, X2, y1, y2, rfl, hk1, hk2, hs1, hs2, hbN⟩
             refine ⟨_, rfl, ?_⟩
             refine hK.out _ _ ⟨X1, y1, X2, y2, D5_, k5_, D3_, k3_, E1_, q1_, E2_, q2_, (.agg #[.slice X1 3 y1, .slice X2 chg.length y2]), m3_, m5_, m6_, m7_, m8_, m9_, m11_, m12_, (by rw [ha.out]; exact putSel_upk 1 hb_ rfl rfl rfl), FB.out.trans (hbN.mono FB.out.size), fun _ => hs1, fun _ => hs2, fun h0_ => absurd ((hoff 3 (by kernel_rfl)).symm.trans h0_) (by decide), fun h0_ => absurd ((hoff 5 (by kernel_rfl)).symm.trans h0_) (by decide), fun h0_ => absurd ((hoff 6 (by kernel_rfl)).symm.trans h0_) (by decide), fun h0_ => absurd ((hoff 6 (by kernel_rfl)).symm.trans h0_) (by decide), fun _ => rfl, fun h0_ => absurd ((hoff 3 (by kernel_rfl)).symm.trans h0_) (by decide), fun h0_ => absurd ((hoff 5 (by kernel_rfl)).symm.trans h0_) (by decide), fun h0_ => absurd ((hoff 6 (by kernel_rfl)).symm.trans h0_) (by decide), fun h0_ => absurd ((hoff 7 (by kernel_rfl)).symm.trans h0_) (by decide), fun h0_ => absurd ((hoff 8 (by kernel_rfl)).symm.trans h0_) (by decide), fun h0_ => absurd ((hoff 9 (by kernel_rfl)).symm.trans h0_) (by decide), fun h0_ => absurd ((hoff 11 (by kernel_rfl)).symm.trans h0_) (by decide), fun h0_ => absurd ((hoff 12 (by kernel_rfl)).symm.trans h0_) (by decide)⟩
            refine steps_cons ?_ ?_
            ·rintro b a w' ⟨D1_, k1_, D2_, k2_, D5_, k5_, D3_, k3_, E1_, q1_, E2_, q2_, m1_, m3_, m5_, m6_, m7_, m8_, m9_, m11_, m12_, ha, Q_FB, Q_S1, Q_S2, Q_S5, Q_S3, Q_Y1, Q_Y2, Q_X1_, Q_X3_, Q_X5_, Q_X6_, Q_X7_, Q_X8_, Q_X9_, Q_X11_, Q_X12_⟩ hb_ hon hoff
             refine ⟨_, rfl, fun K hK => ?_⟩
             have e11 : a.tmps[11]? = some (.pointer (some ⟨g11, 0, none⟩)) := by rw [ha]; exact (putSel_off rfl).trans rfl
             replace ha := Aside0.mk ha
             have FB := Aside0.mk Q_FB
             have q0c_ := (FB.out.cell (p := ⟨g11, 0, none⟩) hg11).trans q0
             have q1c_ := (FB.out.cell (p := ⟨g11, 1, none⟩) hg11).trans q1
             have q2c_ := (FB.out.cell (p := ⟨g11, 2, none⟩) hg11).trans q2
             refine value_ (w1 := w') (v := .agg #[.slice B5 3 j5, .int .i64 1, .int .i64 400]) (by rfl) rfl ?_ ?_
             ·go_simp
              (try simp only [i64_w])
              try rfl
             refine hK.out _ _ ⟨D1_, k1_, D2_, k2_, D5_, k5_, D3_, k3_, E1_, q1_, E2_, q2_, m1_, m3_, m5_, m6_, m7_, m8_, m9_, m11_, m12_, (by rw [ha.out]; exact putSel_upk 2 hb_ rfl rfl rfl), Q_FB, Q_S1, Q_S2, fun h0_ => absurd ((hoff 3 (by kernel_rfl)).symm.trans h0_) (by decide), fun h0_ => absurd ((hoff 5 (by kernel_rfl)).symm.trans h0_) (by decide), fun h0_ => absurd ((hoff 6 (by kernel_rfl)).symm.trans h0_) (by decide), fun h0_ => absurd ((hoff 6 (by kernel_rfl)).symm.trans h0_) (by decide), Q_X1_, fun h0_ => absurd ((hoff 3 (by kernel_rfl)).symm.trans h0_) (by decide), fun h0_ => absurd ((hoff 5 (by kernel_rfl)).symm.trans h0_) (by decide), fun h0_ => absurd ((hoff 6 (by kernel_rfl)).symm.trans h0_) (by decide), fun h0_ => absurd ((hoff 7 (by kernel_rfl)).symm.trans h0_) (by decide), fun h0_ => absurd ((hoff 8 (by kernel_rfl)).symm.trans h0_) (by decide), fun h0_ => absurd ((hoff 9 (by kernel_rfl)).symm.trans h0_) (by decide), fun h0_ => absurd ((hoff 11 (by kernel_rfl)).symm.trans h0_) (by decide), fun h0_ => absurd ((hoff 12 (by kernel_rfl)).symm.trans h0_) (by decide)⟩
            refine steps_cons ?_ ?_
            ·rintro b a w' ⟨D1_, k1_, D2_, k2_, D5_, k5_, D3_, k3_, E1_, q1_, E2_, q2_, m1_, m3_, m5_, m6_, m7_, m8_, m9_, m11_, m12_, ha, Q_FB, Q_S1, Q_S2, Q_S5, Q_S3, Q_Y1, Q_Y2, Q_X1_, Q_X3_, Q_X5_, Q_X6_, Q_X7_, Q_X8_, Q_X9_, Q_X11_, Q_X12_⟩ hb_ hon hoff
             refine ⟨_, rfl, fun K hK => ?_⟩
             have e188 : a.tmps[188]? = some (.agg #[.slice B5 3 j5, .int .i64 1, .int .i64 400]) := by rw [ha]; exact putSel_on (e := (2, 188, .agg #[.slice B5 3 j5, .int .i64 1, .int .i64 400])) 2 rfl rfl (hon 2 (by kernel_rfl)) rfl
             replace ha := Aside0.mk ha
             have FB := Aside0.mk Q_FB
             have S1 := Aside0.mk (Q_S1 (hon 1 (by kernel_rfl)))
             have S2 := Aside0.mk (Q_S2 (hon 1 (by kernel_rfl)))
             refine goes_ Tryz.func11 (by kernel_rfl) rfl #[.agg #[.slice B5 3 j5, .int .i64 1, .int .i64 400]] (by rfl) rfl rfl (by first | rfl | (simp [Act.eval, e188]; done)) ?_
             refine (HWK.out w' (below_step HBi.out FB.out)).mono ?_
             rintro e w2_ ⟨X5, y5, rfl, hk5, hs5, hbN⟩
             refine ⟨_, rfl, ?_⟩
             refine hK.out _ _ ⟨D1_, k1_, D2_, k2_, X5, y5, D3_, k3_, E1_, q1_, E2_, q2_, m1_, (.agg #[.slice X5 3 y5, .int .i64 1, .int .i64 400]), m5_, m6_, m7_, m8_, m9_, m11_, m12_, (by rw [ha.out]; exact putSel_upk 3 hb_ rfl rfl rfl), FB.out.trans (hbN.mono FB.out.size), fun _ => Kd.C_below S1.out hbN, fun _ => Kd.C_below S2.out hbN, fun _ => hs5, fun h0_ => absurd ((hoff 5 (by kernel_rfl)).symm.trans h0_) (by decide), fun h0_ => absurd ((hoff 6 (by kernel_rfl)).symm.trans h0_) (by decide), fun h0_ => absurd ((hoff 6 (by kernel_rfl)).symm.trans h0_) (by decide), Q_X1_, fun _ => rfl, fun h0_ => absurd ((hoff 5 (by kernel_rfl)).symm.trans h0_) (by decide), fun h0_ => absurd ((hoff 6 (by kernel_rfl)).symm.trans h0_) (by decide), fun h0_ => absurd ((hoff 7 (by kernel_rfl)).symm.trans h0_) (by decide), fun h0_ => absurd ((hoff 8 (by kernel_rfl)).symm.trans h0_) (by decide), fun h0_ => absurd ((hoff 9 (by kernel_rfl)).symm.trans h0_) (by decide), fun h0_ => absurd ((hoff 11 (by kernel_rfl)).symm.trans h0_) (by decide), fun h0_ => absurd ((hoff 12 (by kernel_rfl)).symm.trans h0_) (by decide)⟩
            refine steps_cons ?_ ?_
            ·rintro b a w' ⟨D1_, k1_, D2_, k2_, D5_, k5_, D3_, k3_, E1_, q1_, E2_, q2_, m1_, m3_, m5_, m6_, m7_, m8_, m9_, m11_, m12_, ha, Q_FB, Q_S1, Q_S2, Q_S5, Q_S3, Q_Y1, Q_Y2, Q_X1_, Q_X3_, Q_X5_, Q_X6_, Q_X7_, Q_X8_, Q_X9_, Q_X11_, Q_X12_⟩ hb_ hon hoff
             refine ⟨_, rfl, fun K hK => ?_⟩
             have e23 : a.tmps[23]? = some (.slice A23 an.length c23) := by rw [ha]; exact (putSel_off rfl).trans rfl
             replace ha := Aside0.mk ha
             refine value_ (w1 := w') (v := .slice A23 an.length c23) (by rfl) rfl ?_ ?_
             ·go_simp
              (try simp only [i64_w])
              try rfl
             refine hK.out _ _ ⟨D1_, k1_, D2_, k2_, D5_, k5_, D3_, k3_, E1_, q1_, E2_, q2_, m1_, m3_, m5_, m6_, m7_, m8_, m9_, m11_, m12_, (by rw [ha.out]; exact putSel_upk 4 hb_ rfl rfl rfl), Q_FB, Q_S1, Q_S2, Q_S5, fun h0_ => absurd ((hoff 5 (by kernel_rfl)).symm.trans h0_) (by decide), fun h0_ => absurd ((hoff 6 (by kernel_rfl)).symm.trans h0_) (by decide), fun h0_ => absurd ((hoff 6 (by kernel_rfl)).symm.trans h0_) (by decide), Q_X1_, Q_X3_, fun h0_ => absurd ((hoff 5 (by kernel_rfl)).symm.trans h0_) (by decide), fun h0_ => absurd ((hoff 6 (by kernel_rfl)).symm.trans h0_) (by decide), fun h0_ => absurd ((hoff 7 (by kernel_rfl)).symm.trans h0_) (by decide), fun h0_ => absurd ((hoff 8 (by kernel_rfl)).symm.trans h0_) (by decide), fun h0_ => absurd ((hoff 9 (by kernel_rfl)).symm.trans h0_) (by decide), fun h0_ => absurd ((hoff 11 (by kernel_rfl)).symm.trans h0_) (by decide), fun h0_ => absurd ((hoff 12 (by kernel_rfl)).symm.trans h0_) (by decide)⟩
            refine steps_cons ?_ ?_
            ·rintro b a w' ⟨D1_, k1_, D2_, k2_, D5_, k5_, D3_, k3_, E1_, q1_, E2_, q2_, m1_, m3_, m5_, m6_, m7_, m8_, m9_, m11_, m12_, ha, Q_FB, Q_S1, Q_S2, Q_S5, Q_S3, Q_Y1, Q_Y2, Q_X1_, Q_X3_, Q_X5_, Q_X6_, Q_X7_, Q_X8_, Q_X9_, Q_X11_, Q_X12_⟩ hb_ hon hoff
             refine ⟨_, rfl, fun K hK => ?_⟩
             have e190 : a.tmps[190]? = some (.slice A23 an.length c23) := by rw [ha]; exact putSel_on (e := (4, 190, .slice A23 an.length c23)) 4 rfl rfl (hon 4 (by kernel_rfl)) rfl
             replace ha := Aside0.mk ha
             have FB := Aside0.mk Q_FB
             have S1 := Aside0.mk (Q_S1 (hon 1 (by kernel_rfl)))
             have S2 := Aside0.mk (Q_S2 (hon 1 (by kernel_rfl)))
             have S5 := Aside0.mk (Q_S5 (hon 3 (by kernel_rfl)))
             refine goes_ Tryz.func12 (by kernel_rfl) rfl #[.slice A23 an.length c23] (by rfl) rfl rfl (by first | rfl | (simp [Act.eval, e190]; done)) ?_
             refine (HSA.out w' (id FB.out)).mono ?_
             rintro e w2_ ⟨u3, rfl, hs3, hbN⟩
             obtain ⟨X3, y3, rfl⟩ := Kd.S_slice hs3
             refine ⟨_, rfl, ?_⟩
             refine hK.out _ _ ⟨D1_, k1_, D2_, k2_, D5_, k5_, X3, y3, E1_, q1_, E2_, q2_, m1_, m3_, (.slice X3 an.length y3), m6_, m7_, m8_, m9_, m11_, m12_, (by rw [ha.out]; exact putSel_upk 5 hb_ rfl rfl rfl), FB.out.trans (hbN.mono FB.out.size), fun _ => Kd.C_below S1.out hbN, fun _ => Kd.C_below S2.out hbN, fun _ => Kd.C_below S5.out hbN, fun _ => (Kd.S_reads' hs3).2.2, fun h0_ => absurd ((hoff 6 (by kernel_rfl)).symm.trans h0_) (by decide), fun h0_ => absurd ((hoff 6 (by kernel_rfl)).symm.trans h0_) (by decide), Q_X1_, Q_X3_, fun _ => rfl, fun h0_ => absurd ((hoff 6 (by kernel_rfl)).symm.trans h0_) (by decide), fun h0_ => absurd ((hoff 7 (by kernel_rfl)).symm.trans h0_) (by decide), fun h0_ => absurd ((hoff 8 (by kernel_rfl)).symm.trans h0_) (by decide), fun h0_ => absurd ((hoff 9 (by kernel_rfl)).symm.trans h0_) (by decide), fun h0_ => absurd ((hoff 11 (by kernel_rfl)).symm.trans h0_) (by decide), fun h0_ => absurd ((hoff 12 (by kernel_rfl)).symm.trans h0_) (by decide)⟩
            refine steps_cons ?_ ?_
            ·rintro b a w' ⟨D1_, k1_, D2_, k2_, D5_, k5_, D3_, k3_, E1_, q1_, E2_, q2_, m1_, m3_, m5_, m6_, m7_, m8_, m9_, m11_, m12_, ha, Q_FB, Q_S1, Q_S2, Q_S5, Q_S3, Q_Y1, Q_Y2, Q_X1_, Q_X3_, Q_X5_, Q_X6_, Q_X7_, Q_X8_, Q_X9_, Q_X11_, Q_X12_⟩ hb_ hon hoff
             refine ⟨_, rfl, fun K hK => ?_⟩
             have e187 : a.tmps[187]? = some (m1_) := by rw [ha]; exact putSel_on (e := (1, 187, m1_)) 1 rfl rfl (hon 1 (by kernel_rfl)) rfl
             rw [Q_X1_ (hon 1 (by kernel_rfl))] at e187
             have e189 : a.tmps[189]? = some (m3_) := by rw [ha]; exact putSel_on (e := (3, 189, m3_)) 3 rfl rfl (hon 3 (by kernel_rfl)) rfl
             rw [Q_X3_ (hon 3 (by kernel_rfl))] at e189
             have e191 : a.tmps[191]? = some (m5_) := by rw [ha]; exact putSel_on (e := (5, 191, m5_)) 5 rfl rfl (hon 5 (by kernel_rfl)) rfl
             rw [Q_X5_ (hon 5 (by kernel_rfl))] at e191
             replace ha := Aside0.mk ha
             have FB := Aside0.mk Q_FB
             have S1 := Aside0.mk (Q_S1 (hon 1 (by kernel_rfl)))
             have S2 := Aside0.mk (Q_S2 (hon 1 (by kernel_rfl)))
             have S5 := Aside0.mk (Q_S5 (hon 3 (by kernel_rfl)))
             have S3 := Aside0.mk (Q_S3 (hon 5 (by kernel_rfl)))
             refine goes_ Tryz.func10 (by kernel_rfl) rfl #[.agg #[.slice D1_ 3 k1_, .slice D2_ chg.length k2_], .agg #[.slice D5_ 3 k5_, .int .i64 1, .int .i64 400], .slice D3_ an.length k3_] (by rfl) rfl rfl (by first | rfl | (simp [Act.eval, e187, e189, e191]; done)) ?_
             refine (HYR.out D1_ D2_ D5_ D3_ k1_ k2_ k5_ k3_ HOW.out an HOA.out (by omega) w' S1.out S2.out S5.out S3.out).mono ?_
             rintro e w2_ ⟨u1, u2, rfl, hr1, hr2, hbN⟩
             replace hr1 : Kd.string.R 9 w2_ w'.heap.size (fun _ => True) u1 (saysOf chg an) := hr1
             replace hr2 : k58.R 58 w2_ w'.heap.size (fun _ => True) u2 (usesS ss an) := hr2
             obtain ⟨Z1, n1, rfl⟩ := Kd.R_slice hr1
             obtain ⟨Z2, n2, rfl⟩ := Kd.R_slice hr2
             rw [saysOf_length] at hr1 ⊢
             rw [usesS_length, hss] at hr2 ⊢
             refine ⟨_, rfl, ?_⟩
             refine hK.out _ _ ⟨D1_, k1_, D2_, k2_, D5_, k5_, D3_, k3_, Z1, n1, Z2, n2, m1_, m3_, m5_, (.tuple #[.slice Z1 an.length n1, .slice Z2 3 n2, .int .i64 0]), m7_, m8_, m9_, m11_, m12_, (by rw [ha.out]; exact putSel_upk 6 hb_ rfl rfl rfl), FB.out.trans (hbN.mono FB.out.size), fun _ => Kd.C_below S1.out hbN, fun _ => Kd.C_below S2.out hbN, fun _ => Kd.C_below S5.out hbN, fun _ => Kd.C_below S3.out hbN, fun _ => Kd.R_lower hr1 FB.out.size, fun _ => Kd.R_lower hr2 FB.out.size, Q_X1_, Q_X3_, Q_X5_, fun _ => rfl, fun h0_ => absurd ((hoff 7 (by kernel_rfl)).symm.trans h0_) (by decide), fun h0_ => absurd ((hoff 8 (by kernel_rfl)).symm.trans h0_) (by decide), fun h0_ => absurd ((hoff 9 (by kernel_rfl)).symm.trans h0_) (by decide), fun h0_ => absurd ((hoff 11 (by kernel_rfl)).symm.trans h0_) (by decide), fun h0_ => absurd ((hoff 12 (by kernel_rfl)).symm.trans h0_) (by decide)⟩
            refine steps_cons ?_ ?_
            ·rintro b a w' ⟨D1_, k1_, D2_, k2_, D5_, k5_, D3_, k3_, E1_, q1_, E2_, q2_, m1_, m3_, m5_, m6_, m7_, m8_, m9_, m11_, m12_, ha, Q_FB, Q_S1, Q_S2, Q_S5, Q_S3, Q_Y1, Q_Y2, Q_X1_, Q_X3_, Q_X5_, Q_X6_, Q_X7_, Q_X8_, Q_X9_, Q_X11_, Q_X12_⟩ hb_ hon hoff
             refine ⟨_, rfl, fun K hK => ?_⟩
             have e192 : a.tmps[192]? = some (m6_) := by rw [ha]; exact putSel_on (e := (6, 192, m6_)) 6 rfl rfl (hon 6 (by kernel_rfl)) rfl
             rw [Q_X6_ (hon 6 (by kernel_rfl))] at e192
             replace ha := Aside0.mk ha
             refine value_ (w1 := w') (v := .tuple #[.slice E1_ an.length q1_, .slice E2_ 3 q2_, .int .i64 0]) (by rfl) rfl ?_ ?_
             ·go_simp
              (try simp only [i64_w])
              try rfl
             refine hK.out _ _ ⟨D1_, k1_, D2_, k2_, D5_, k5_, D3_, k3_, E1_, q1_, E2_, q2_, m1_, m3_, m5_, m6_, (.tuple #[.slice E1_ an.length q1_, .slice E2_ 3 q2_, .int .i64 0]), m8_, m9_, m11_, m12_, (by rw [ha.out]; exact putSel_upk 7 hb_ rfl rfl rfl), Q_FB, Q_S1, Q_S2, Q_S5, Q_S3, Q_Y1, Q_Y2, Q_X1_, Q_X3_, Q_X5_, Q_X6_, fun _ => rfl, fun h0_ => absurd ((hoff 8 (by kernel_rfl)).symm.trans h0_) (by decide), fun h0_ => absurd ((hoff 9 (by kernel_rfl)).symm.trans h0_) (by decide), fun h0_ => absurd ((hoff 11 (by kernel_rfl)).symm.trans h0_) (by decide), fun h0_ => absurd ((hoff 12 (by kernel_rfl)).symm.trans h0_) (by decide)⟩
            refine steps_cons ?_ ?_
            ·rintro b a w' ⟨D1_, k1_, D2_, k2_, D5_, k5_, D3_, k3_, E1_, q1_, E2_, q2_, m1_, m3_, m5_, m6_, m7_, m8_, m9_, m11_, m12_, ha, Q_FB, Q_S1, Q_S2, Q_S5, Q_S3, Q_Y1, Q_Y2, Q_X1_, Q_X3_, Q_X5_, Q_X6_, Q_X7_, Q_X8_, Q_X9_, Q_X11_, Q_X12_⟩ hb_ hon hoff
             refine ⟨_, rfl, fun K hK => ?_⟩
             have e185 : a.tmps[185]? = some (m7_) := by rw [ha]; exact putSel_on (e := (7, 185, m7_)) 7 rfl rfl (hon 7 (by kernel_rfl)) rfl
             rw [Q_X7_ (hon 7 (by kernel_rfl))] at e185
             replace ha := Aside0.mk ha
             refine value_ (w1 := w') (v := .slice E1_ an.length q1_) (by rfl) rfl ?_ ?_
             ·go_simp
              (try simp only [i64_w])
              try rfl
             refine hK.out _ _ ⟨D1_, k1_, D2_, k2_, D5_, k5_, D3_, k3_, E1_, q1_, E2_, q2_, m1_, m3_, m5_, m6_, m7_, (.slice E1_ an.length q1_), m9_, m11_, m12_, (by rw [ha.out]; exact putSel_upk 8 hb_ rfl rfl rfl), Q_FB, Q_S1, Q_S2, Q_S5, Q_S3, Q_Y1, Q_Y2, Q_X1_, Q_X3_, Q_X5_, Q_X6_, Q_X7_, fun _ => rfl, Q_X9_, fun h0_ => absurd ((hoff 11 (by kernel_rfl)).symm.trans h0_) (by decide), fun h0_ => absurd ((hoff 12 (by kernel_rfl)).symm.trans h0_) (by decide)⟩
            refine steps_cons ?_ ?_
            ·rintro b a w' ⟨D1_, k1_, D2_, k2_, D5_, k5_, D3_, k3_, E1_, q1_, E2_, q2_, m1_, m3_, m5_, m6_, m7_, m8_, m9_, m11_, m12_, ha, Q_FB, Q_S1, Q_S2, Q_S5, Q_S3, Q_Y1, Q_Y2, Q_X1_, Q_X3_, Q_X5_, Q_X6_, Q_X7_, Q_X8_, Q_X9_, Q_X11_, Q_X12_⟩ hb_ hon hoff
             refine ⟨_, rfl, fun K hK => ?_⟩
             have e185 : a.tmps[185]? = some (m7_) := by rw [ha]; exact putSel_on (e := (7, 185, m7_)) 7 rfl rfl (hon 7 (by kernel_rfl)) rfl
             rw [Q_X7_ (hon 7 (by kernel_rfl))] at e185
             replace ha := Aside0.mk ha
             refine value_ (w1 := w') (v := .slice E2_ 3 q2_) (by rfl) rfl ?_ ?_
             ·go_simp
              (try simp only [i64_w])
              try rfl
             refine hK.out _ _ ⟨D1_, k1_, D2_, k2_, D5_, k5_, D3_, k3_, E1_, q1_, E2_, q2_, m1_, m3_, m5_, m6_, m7_, m8_, (.slice E2_ 3 q2_), m11_, m12_, (by rw [ha.out]; exact putSel_upk 9 hb_ rfl rfl rfl), Q_FB, Q_S1, Q_S2, Q_S5, Q_S3, Q_Y1, Q_Y2, Q_X1_, Q_X3_, Q_X5_, Q_X6_, Q_X7_, Q_X8_, fun _ => rfl, Q_X11_, fun h0_ => absurd ((hoff 12 (by kernel_rfl)).symm.trans h0_) (by decide)⟩
            refine steps_cons ?_ ?_
            ·rintro b a w' ⟨D1_, k1_, D2_, k2_, D5_, k5_, D3_, k3_, E1_, q1_, E2_, q2_, m1_, m3_, m5_, m6_, m7_, m8_, m9_, m11_, m12_, ha, Q_FB, Q_S1, Q_S2, Q_S5, Q_S3, Q_Y1, Q_Y2, Q_X1_, Q_X3_, Q_X5_, Q_X6_, Q_X7_, Q_X8_, Q_X9_, Q_X11_, Q_X12_⟩ hb_ hon hoff
             refine ⟨_, rfl, fun K hK => ?_⟩
             have e185 : a.tmps[185]? = some (m7_) := by rw [ha]; exact putSel_on (e := (7, 185, m7_)) 7 rfl rfl (hon 7 (by kernel_rfl)) rfl
             rw [Q_X7_ (hon 7 (by kernel_rfl))] at e185
             replace ha := Aside0.mk ha
             refine value_ (w1 := w') (v := .int .i64 0) (by rfl) rfl ?_ ?_
             ·go_simp
              (try simp only [i64_w])
              try rfl
             refine hK.out _ _ ⟨D1_, k1_, D2_, k2_, D5_, k5_, D3_, k3_, E1_, q1_, E2_, q2_, m1_, m3_, m5_, m6_, m7_, m8_, m9_, m11_, m12_, (by rw [ha.out]; exact putSel_upk 10 hb_ rfl rfl rfl), Q_FB, Q_S1, Q_S2, Q_S5, Q_S3, Q_Y1, Q_Y2, Q_X1_, Q_X3_, Q_X5_, Q_X6_, Q_X7_, Q_X8_, Q_X9_, Q_X11_, Q_X12_⟩
            refine steps_cons ?_ ?_
            ·rintro b a w' ⟨D1_, k1_, D2_, k2_, D5_, k5_, D3_, k3_, E1_, q1_, E2_, q2_, m1_, m3_, m5_, m6_, m7_, m8_, m9_, m11_, m12_, ha, Q_FB, Q_S1, Q_S2, Q_S5, Q_S3, Q_Y1, Q_Y2, Q_X1_, Q_X3_, Q_X5_, Q_X6_, Q_X7_, Q_X8_, Q_X9_, Q_X11_, Q_X12_⟩ hb_ hon hoff
             refine ⟨_, rfl, fun K hK => ?_⟩
             have e193 : a.tmps[193]? = some (m8_) := by rw [ha]; exact putSel_on (e := (8, 193, m8_)) 8 rfl rfl (hon 8 (by kernel_rfl)) rfl
             rw [Q_X8_ (hon 8 (by kernel_rfl))] at e193
             replace ha := Aside0.mk ha
             refine value_ (w1 := w') (v := .slice E1_ an.length q1_) (by rfl) rfl ?_ ?_
             ·go_simp
              (try simp only [i64_w])
              try rfl
             refine hK.out _ _ ⟨D1_, k1_, D2_, k2_, D5_, k5_, D3_, k3_, E1_, q1_, E2_, q2_, m1_, m3_, m5_, m6_, m7_, m8_, m9_, (.slice E1_ an.length q1_), m12_, (by rw [ha.out]; exact putSel_upk 11 hb_ rfl rfl rfl), Q_FB, Q_S1, Q_S2, Q_S5, Q_S3, Q_Y1, Q_Y2, Q_X1_, Q_X3_, Q_X5_, Q_X6_, Q_X7_, Q_X8_, Q_X9_, fun _ => rfl, fun h0_ => absurd ((hoff 12 (by kernel_rfl)).symm.trans h0_) (by decide)⟩
            refine steps_cons ?_ ?_
            ·rintro b a w' ⟨D1_, k1_, D2_, k2_, D5_, k5_, D3_, k3_, E1_, q1_, E2_, q2_, m1_, m3_, m5_, m6_, m7_, m8_, m9_, m11_, m12_, ha, Q_FB, Q_S1, Q_S2, Q_S5, Q_S3, Q_Y1, Q_Y2, Q_X1_, Q_X3_, Q_X5_, Q_X6_, Q_X7_, Q_X8_, Q_X9_, Q_X11_, Q_X12_⟩ hb_ hon hoff
             refine ⟨_, rfl, fun K hK => ?_⟩
             have e194 : a.tmps[194]? = some (m9_) := by rw [ha]; exact putSel_on (e := (9, 194, m9_)) 9 rfl rfl (hon 9 (by kernel_rfl)) rfl
             rw [Q_X9_ (hon 9 (by kernel_rfl))] at e194
             replace ha := Aside0.mk ha
             refine value_ (w1 := w') (v := .slice E2_ 3 q2_) (by rfl) rfl ?_ ?_
             ·go_simp
              (try simp only [i64_w])
              try rfl
             refine hK.out _ _ ⟨D1_, k1_, D2_, k2_, D5_, k5_, D3_, k3_, E1_, q1_, E2_, q2_, m1_, m3_, m5_, m6_, m7_, m8_, m9_, m11_, (.slice E2_ 3 q2_), (by rw [ha.out]; exact putSel_upk 12 hb_ rfl rfl rfl), Q_FB, Q_S1, Q_S2, Q_S5, Q_S3, Q_Y1, Q_Y2, Q_X1_, Q_X3_, Q_X5_, Q_X6_, Q_X7_, Q_X8_, Q_X9_, Q_X11_, fun _ => rfl⟩
            refine steps_cons ?_ ?_
            ·rintro b a w' ⟨D1_, k1_, D2_, k2_, D5_, k5_, D3_, k3_, E1_, q1_, E2_, q2_, m1_, m3_, m5_, m6_, m7_, m8_, m9_, m11_, m12_, ha, Q_FB, Q_S1, Q_S2, Q_S5, Q_S3, Q_Y1, Q_Y2, Q_X1_, Q_X3_, Q_X5_, Q_X6_, Q_X7_, Q_X8_, Q_X9_, Q_X11_, Q_X12_⟩ hb_ hon hoff
             refine ⟨_, rfl, fun K hK => ?_⟩
             have e195 : a.tmps[195]? = some (.int .i64 0) := by rw [ha]; exact putSel_on (e := (10, 195, .int .i64 0)) 10 rfl rfl (hon 10 (by kernel_rfl)) rfl
             replace ha := Aside0.mk ha
             refine value_ (w1 := w') (v := .int .i64 0) (by rfl) rfl ?_ ?_
             ·go_simp
              (try simp only [i64_w])
              try rfl
             refine hK.out _ _ ⟨D1_, k1_, D2_, k2_, D5_, k5_, D3_, k3_, E1_, q1_, E2_, q2_, m1_, m3_, m5_, m6_, m7_, m8_, m9_, m11_, m12_, (by rw [ha.out]; exact putSel_upk 13 hb_ rfl rfl rfl), Q_FB, Q_S1, Q_S2, Q_S5, Q_S3, Q_Y1, Q_Y2, Q_X1_, Q_X3_, Q_X5_, Q_X6_, Q_X7_, Q_X8_, Q_X9_, Q_X11_, Q_X12_⟩
            exact steps_nil
           ·rintro b a w' hall ⟨D1_, k1_, D2_, k2_, D5_, k5_, D3_, k3_, E1_, q1_, E2_, q2_, m1_, m3_, m5_, m6_, m7_, m8_, m9_, m11_, m12_, ha, Q_FB, Q_S1, Q_S2, Q_S5, Q_S3, Q_Y1, Q_Y2, Q_X1_, Q_X3_, Q_X5_, Q_X6_, Q_X7_, Q_X8_, Q_X9_, Q_X11_, Q_X12_⟩
            clear FB
            have hb0_ := hall 0 (by kernel_rfl)
            have hb1_ := hall 1 (by kernel_rfl)
            have hb2_ := hall 2 (by kernel_rfl)
            have hb3_ := hall 3 (by kernel_rfl)
            have hb4_ := hall 4 (by kernel_rfl)
            have hb5_ := hall 5 (by kernel_rfl)
            have hb6_ := hall 6 (by kernel_rfl)
            have hb7_ := hall 7 (by kernel_rfl)
            have hb8_ := hall 8 (by kernel_rfl)
            have hb9_ := hall 9 (by kernel_rfl)
            have hb10_ := hall 10 (by kernel_rfl)
            have hb11_ := hall 11 (by kernel_rfl)
            have hb12_ := hall 12 (by kernel_rfl)
            have hb13_ := hall 13 (by kernel_rfl)
            subst ha
            obtain rfl := Q_X1_ hb1_
            obtain rfl := Q_X3_ hb3_
            obtain rfl := Q_X5_ hb5_
            obtain rfl := Q_X6_ hb6_
            obtain rfl := Q_X7_ hb7_
            obtain rfl := Q_X8_ hb8_
            obtain rfl := Q_X9_ hb9_
            obtain rfl := Q_X11_ hb11_
            obtain rfl := Q_X12_ hb12_
            simp only [putSel, hb0_, hb1_, hb2_, hb3_, hb4_, hb5_, hb6_, hb7_, hb8_, hb9_, hb10_, hb11_, hb12_, hb13_, if_true, Act.put, List.setIfInBounds_toArray, List.set_cons_zero, List.set_cons_succ]
            have FB := Aside0.mk Q_FB
            clear Q_FB
            have S1 := Aside0.mk (Q_S1 hb1_)
            clear Q_S1
            have S2 := Aside0.mk (Q_S2 hb1_)
            clear Q_S2
            have S5 := Aside0.mk (Q_S5 hb3_)
            clear Q_S5
            have S3 := Aside0.mk (Q_S3 hb5_)
            clear Q_S3
            have Y1 := Aside0.mk (Q_Y1 hb6_)
            clear Q_Y1
            have Y2 := Aside0.mk (Q_Y2 hb6_)
            clear Q_Y2
            clear hall hb0_ hb1_ hb2_ hb3_ hb4_ hb5_ hb6_ hb7_ hb8_ hb9_ hb10_ hb11_ hb12_ hb13_
            go_wp2_with fail
            go_meet
            exact ⟨E1_, E2_, q1_, q2_, rfl, rfl, rfl, Y1, Y2, FB⟩
         case rest =>
          obtain ⟨G1, G2, m1, m2, rfl, rfl, rfl, Y1, Y2, FB⟩ := hcut
          rename World => wj
          have hsz := FB.out.size
          have HBj := Aside0.mk (below_step HBi.out FB.out)
          obtain ⟨_, _, e1, _, hM27, hF27⟩ := R_rowB Y1.out
          rw [saysOf_length] at e1
          cases e1
          obtain ⟨_, _, e2, _, hM28, hF28⟩ := R_rowB Y2.out
          rw [usesS_length, hss] at e2
          cases e2
          rw [saysOf_length] at hM27 hF27
          rw [usesS_length, hss] at hM28 hF28
          have M27 := Aside0.mk hM27
          have M28 := Aside0.mk hM28
          have F27 : Aside0 (0 < an.length → ∃ g, G1 = some ⟨g, 0, none⟩ ∧ g < wj.heap.size ∧ g ≠ g24) := ⟨fun h => by obtain ⟨g, e, hg⟩ := hF27 h; exact ⟨g, e, by omega⟩⟩
          have F28 : Aside0 (0 < 3 → ∃ g, G2 = some ⟨g, 0, none⟩ ∧ g < wj.heap.size ∧ g ≠ g24) := ⟨fun h => by obtain ⟨g, e, hg⟩ := hF28 h; exact ⟨g, e, by omega⟩⟩
          replace M19 := Aside0.mk (Kd.C_below M19.out FB.out)
          replace M20 := Aside0.mk (Kd.C_below M20.out FB.out)
          replace F19 : Aside0 (0 < l.length → ∃ g, E1 = some ⟨g, 0, none⟩ ∧ g < wj.heap.size) := ⟨fun h => by obtain ⟨g, e, hg⟩ := F19.out h; exact ⟨g, e, by omega⟩⟩
          replace F20 : Aside0 (0 < 3 → ∃ g, E2 = some ⟨g, 0, none⟩ ∧ g < wj.heap.size ∧ g ≠ g24) := ⟨fun h => by obtain ⟨g, e, hg⟩ := F20.out h; exact ⟨g, e, by omega⟩⟩
          replace HZ9 := Aside0.mk (Kd.R_below HZ9.out FB.out)
          replace F23 : Aside0 (0 < an.length → ∃ g, A23 = some ⟨g, 0, none⟩ ∧ g < wj.heap.size ∧ g ≠ g24) := ⟨fun h => by obtain ⟨g, e, hg⟩ := F23.out h; exact ⟨g, e, by omega⟩⟩
          replace FA : Aside0 (Kd.F k47 wj (fun k => True ∧ k < wj.heap.size) A23 an.length an) := ⟨Kd.F_mono (Kd.F_below FA.out FB.out) (fun k hk => ⟨trivial, by have := hk.2; omega⟩)⟩
          replace p0 := (FB.out.cell (p := ⟨g9, 0, none⟩) hg9i).trans p0
          replace p1 := (FB.out.cell (p := ⟨g9, 1, none⟩) hg9i).trans p1
          replace q0 := (FB.out.cell (p := ⟨g11, 0, none⟩) hg11i).trans q0
          replace q1 := (FB.out.cell (p := ⟨g11, 1, none⟩) hg11i).trans q1
          replace q2 := (FB.out.cell (p := ⟨g11, 2, none⟩) hg11i).trans q2
          replace hg9i : g9 < wj.heap.size := by omega
          have h24c : g24 < wj.heap.size := by omega
          replace hg11i : g11 < wj.heap.size := by omega
          clear Y1 Y2 FB HBi hM27 hM28 hF27 hF28 hsz HSA
          obtain ⟨la, hla⟩ : ∃ la, la = l ++ an := ⟨_, rfl⟩
          have hll : la.length = l.length + an.length := by rw [hla, List.length_append]
          have HOL : Aside0 (∀ x ∈ la, OkSign 3 3 x) := ⟨fun x hx => by rw [hla, List.mem_append] at hx; rcases hx with h | h; exact HOK.out x h; exact HOA.out x h⟩
          have hol := HOL.out
          have HSL := Lib.hid (fun E h (hE : la.length ≤ h) W hC => irisSigns_ok E h la hE (by omega) (fun x hx => by have := (hol x hx).jb.l1; simp only [jobOf] at this; omega) W hC)
          have HLL := Aside0.mk hll
          have HLA := Aside0.mk hla
          have hla6 : la.length ≤ 6 := by omega
          clear hol hll hla
          go_upto_region 29 with fail
          go_cut [29, 30, 21] from 196 to 209 (fun s29 s30 s21 wx => ∃ (K1 K2 : Option Addr) (r1 r2 : Nat), s29 = .slice K1 la.length r1 ∧ s30 = .slice K2 3 r2 ∧ s21 = .int .i64 0 ∧ Aside0 (Kd.string.R 9 wx wj.heap.size (fun _ => True) (.slice K1 la.length r1) (saysOf chg la)) ∧ Aside0 (k58.R 58 wx wj.heap.size (fun _ => True) (.slice K2 3 r2) (usesS ss la)) ∧ Aside0 (Below wj.heap.size wj wx))
          case first =>
           clear_value *
           as_aux_lemma =>
            clear M19 M20 F19 F20 M27 M28 F27 F28 HZ9
            have hg9 := hg9i
            have hg11 := hg11i
            refine start_ (n := 17) (S := fun w' => True) (ds := []) #[false, false, false, false, false, false, false, false, false, false, false, false, false, false, false, false, false] (by kernel_rfl) rfl rfl trivial (fun hHeld => ?_)
            refine with_tabW fired.tab29 fired.bits29 (fun HT_ HW_ => ?_)
            have FB := Aside0.mk (below_drew (Below.refl wj.heap.size wj))
            replace FA := Aside0.mk (Kd.F_below FA.out FB.out)
            generalize wj.drew = w8 at FB FA ⊢
            refine inv_at [0, 1, 2, 3, 4, 5, 6, 7, 8, 9, 10, 11, 12, 13, 14, 15, 16] (fun a0_ b a w' => ∃ (D1_ : Option Addr) (k1_ : Nat) (D2_ : Option Addr) (k2_ : Nat) (D5_ : Option Addr) (k5_ : Nat) (D3_ : Option Addr) (k3_ : Nat) (D4_ : Option Addr) (k4_ : Nat) (E1_ : Option Addr) (q1_ : Nat) (E2_ : Option Addr) (q2_ : Nat) (E3_ : Option Addr) (q3_ : Nat) (m1_ : Value) (m3_ : Value) (m5_ : Value) (m7_ : Value) (m8_ : Value) (m9_ : Value) (m10_ : Value) (m11_ : Value) (m12_ : Value) (m14_ : Value) (m15_ : Value), a = putSel a0_ b [(0, 197, .agg #[.slice B1 3 j1, .slice B2 chg.length j2]), (1, 198, m1_), (2, 199, .agg #[.slice B5 3 j5, .int .i64 1, .int .i64 400]), (3, 200, m3_), (4, 201, .slice B3 l.length j3), (5, 202, m5_), (6, 203, .slice A23 an.length c23), (7, 204, m7_), (8, 205, m8_), (9, 206, m9_), (10, 196, m10_), (11, 207, m11_), (12, 208, m12_), (13, 209, .int .i64 0), (14, 29, m14_), (15, 30, m15_), (16, 21, .int .i64 0)] ∧ (Below wj.heap.size wj w') ∧ (b 7 = false → Kd.F k47 w' (fun k => True ∧ k < wj.heap.size) A23 an.length an) ∧ (b 1 = true → Kd.string.R 9 w' wj.heap.size (fun _ => True) (.slice D1_ 3 k1_) first3) ∧ (b 1 = true → k64.R 64 w' wj.heap.size (fun _ => True) (.slice D2_ chg.length k2_) chg) ∧ (b 3 = true → k67.R 67 w' wj.heap.size (fun _ => True) (.slice D5_ 3 k5_) ss) ∧ (b 5 = true → b 7 = false → Kd.N k47 47 w' wj.heap.size (fun _ => True) (.slice D3_ l.length k3_) l) ∧ (b 7 = true → (la.length ≤ q3_ ∧ k47.C w' E3_ la.length la)) ∧ (b 8 = true → k47.C w' D4_ la.length la) ∧ (b 9 = true → Kd.string.R 9 w' wj.heap.size (fun _ => True) (.slice E1_ la.length q1_) (saysOf chg la)) ∧ (b 9 = true → k58.R 58 w' wj.heap.size (fun _ => True) (.slice E2_ 3 q2_) (usesS ss la)) ∧ (b 1 = true → (m1_ : Value) = .agg #[.slice D1_ 3 k1_, .slice D2_ chg.length k2_]) ∧ (b 3 = true → (m3_ : Value) = .agg #[.slice D5_ 3 k5_, .int .i64 1, .int .i64 400]) ∧ (b 5 = true → (m5_ : Value) = .slice D3_ l.length k3_) ∧ (b 7 = true → (m7_ : Value) = .slice E3_ la.length q3_) ∧ (b 8 = true → (m8_ : Value) = .slice D4_ la.length k4_) ∧ (b 9 = true → (m9_ : Value) = .tuple #[.slice E1_ la.length q1_, .slice E2_ 3 q2_, .int .i64 0]) ∧ (b 10 = true → (m10_ : Value) = .tuple #[.slice E1_ la.length q1_, .slice E2_ 3 q2_, .int .i64 0]) ∧ (b 11 = true → (m11_ : Value) = .slice E1_ la.length q1_) ∧ (b 12 = true → (m12_ : Value) = .slice E2_ 3 q2_) ∧ (b 14 = true → (m14_ : Value) = .slice E1_ la.length q1_) ∧ (b 15 = true → (m15_ : Value) = .slice E2_ 3 q2_)) HT_.out HW_.out (by kernel_rfl) (by kernel_rfl) ?_ ?_ ?_
            ·exact ⟨none, 0, none, 0, none, 0, none, 0, none, 0, none, 0, none, 0, none, 0, .bool false, .bool false, .bool false, .bool false, .bool false, .bool false, .bool false, .bool false, .bool false, .bool false, .bool false, by simp only [putSel, Bool.false_eq_true, if_false], FB.out, fun _ => FA.out, fun h_ => absurd h_ (by decide), fun h_ => absurd h_ (by decide), fun h_ => absurd h_ (by decide), fun h_ => absurd h_ (by decide), fun h_ => absurd h_ (by decide), fun h_ => absurd h_ (by decide), fun h_ => absurd h_ (by decide), fun h_ => absurd h_ (by decide), fun h_ => absurd h_ (by decide), fun h_ => absurd h_ (by decide), fun h_ => absurd h_ (by decide), fun h_ => absurd h_ (by decide), fun h_ => absurd h_ (by decide), fun h_ => absurd h_ (by decide), fun h_ => absurd h_ (by decide), fun h_ => absurd h_ (by decide), fun h_ => absurd h_ (by decide), fun h_ => absurd h_ (by decide), fun h_ => absurd h_ (by decide)⟩
            ·skip
             clear FA FB
             refine steps_cons ?_ ?_
             ·rintro b a w' ⟨D1_, k1_, D2_, k2_, D5_, k5_, D3_, k3_, D4_, k4_, E1_, q1_, E2_, q2_, E3_, q3_, m1_, m3_, m5_, m7_, m8_, m9_, m10_, m11_, m12_, m14_, m15_, ha, Q_FB, Q_FA, Q_T1, Q_T2, Q_T5, Q_S3, Q_X4, Q_S4, Q_Y1, Q_Y2, Q_X1_, Q_X3_, Q_X5_, Q_X7_, Q_X8_, Q_X9_, Q_X10_, Q_X11_, Q_X12_, Q_X14_, Q_X15_⟩ hb_ hon hoff
              refine ⟨_, rfl, fun K hK => ?_⟩
              have e9 : a.tmps[9]? = some (.pointer (some ⟨g9, 0, none⟩)) := by rw [ha]; exact (putSel_off rfl).trans rfl
              replace ha := Aside0.mk ha
              have FB := Aside0.mk Q_FB
              have p0c_ := (FB.out.cell (p := ⟨g9, 0, none⟩) hg9).trans p0
              have p1c_ := (FB.out.cell (p := ⟨g9, 1, none⟩) hg9).trans p1
              refine value_ (w1 := w') (v := .agg #[.slice B1 3 j1, .slice B2 chg.length j2]) (by rfl) rfl ?_ ?_
              ·go_simp
               (try simp only [i64_w])
               try rfl
              refine hK.out _ _ ⟨D1_, k1_, D2_, k2_, D5_, k5_, D3_, k3_, D4_, k4_, E1_, q1_, E2_, q2_, E3_, q3_, m1_, m3_, m5_, m7_, m8_, m9_, m10_, m11_, m12_, m14_, m15_, (by rw [ha.out]; exact putSel_upk 0 hb_ rfl rfl rfl), Q_FB, Q_FA, fun h0_ => absurd ((hoff 1 (by kernel_rfl)).symm.trans h0_) (by decide), fun h0_ => absurd ((hoff 1 (by kernel_rfl)).symm.trans h0_) (by decide), fun h0_ => absurd ((hoff 3 (by kernel_rfl)).symm.trans h0_) (by decide), fun h0_ _ => absurd ((hoff 5 (by kernel_rfl)).symm.trans h0_) (by decide), fun h0_ => absurd ((hoff 7 (by kernel_rfl)).symm.trans h0_) (by decide), fun h0_ => absurd ((hoff 8 (by kernel_rfl)).symm.trans h0_) (by decide), fun h0_ => absurd ((hoff 9 (by kernel_rfl)).symm.trans h0_) (by decide), fun h0_ => absurd ((hoff 9 (by kernel_rfl)).symm.trans h0_) (by decide), fun h0_ => absurd ((hoff 1 (by kernel_rfl)).symm.trans h0_) (by decide), fun h0_ => absurd ((hoff 3 (by kernel_rfl)).symm.trans h0_) (by decide), fun h0_ => absurd ((hoff 5 (by kernel_rfl)).symm.trans h0_) (by decide), fun h0_ => absurd ((hoff 7 (by kernel_rfl)).symm.trans h0_) (by decide), fun h0_ => absurd ((hoff 8 (by kernel_rfl)).symm.trans h0_) (by decide), fun h0_ => absurd ((hoff 9 (by kernel_rfl)).symm.trans h0_) (by decide), fun h0_ => absurd ((hoff 10 (by kernel_rfl)).symm.trans h0_) (by decide), fun h0_ => absurd ((hoff 11 (by kernel_rfl)).symm.trans h0_) (by decide), fun h0_ => absurd ((hoff 12 (by kernel_rfl)).symm.trans h0_) (by decide), fun h0_ => absurd ((hoff 14 (by kernel_rfl)).symm.trans h0_) (by decide), fun h0_ => absurd ((hoff 15 (by kernel_rfl)).symm.trans h0_) (by decide)⟩
             refine steps_cons ?_ ?_
             ·rintro b a w' ⟨D1_, k1_, D2_, k2_, D5_, k5_, D3_, k3_, D4_, k4_, E1_, q1_, E2_, q2_, E3_, q3_, m1_, m3_, m5_, m7_, m8_, m9_, m10_, m11_, m12_, m14_, m15_, ha, Q_FB, Q_FA, Q_T1, Q_T2, Q_T5, Q_S3, Q_X4, Q_S4, Q_Y1, Q_Y2, Q_X1_, Q_X3_, Q_X5_, Q_X7_, Q_X8_, Q_X9_, Q_X10_, Q_X11_, Q_X12_, Q_X14_, Q_X15_⟩ hb_ hon hoff
              refine ⟨_, rfl, fun K hK => ?_⟩
              have e197 : a.tmps[197]? = some (.agg #[.slice B1 3 j1, .slice B2 chg.length j2]) := by rw [ha]; exact putSel_on (e := (0, 197, .agg #[.slice B1 3 j1, .slice B2 chg.length j2])) 0 rfl rfl (hon 0 (by kernel_rfl)) rfl
              replace ha := Aside0.mk ha
              have FB := Aside0.mk Q_FB
              have FA := Aside0.mk (Q_FA (hoff 7 (by kernel_rfl)))
              refine goes_ Tryz.func8 (by kernel_rfl) rfl #[.agg #[.slice B1 3 j1, .slice B2 chg.length j2]] (by rfl) rfl rfl (by first | rfl | (simp [Act.eval, e197]; done)) ?_
              refine (HSR.out w' (below_step HBj.out FB.out)).mono ?_
              rintro e w2_ ⟨X1, X2, y1, y2, rfl, hs1, hs2, hbN⟩
              refine ⟨_, rfl, ?_⟩
              refine hK.out _ _ ⟨X1, y1, X2, y2, D5_, k5_, D3_, k3_, D4_, k4_, E1_, q1_, E2_, q2_, E3_, q3_, (.agg #[.slice X1 3 y1, .slice X2 chg.length y2]), m3_, m5_, m7_, m8_, m9_, m10_, m11_, m12_, m14_, m15_, (by rw [ha.out]; exact putSel_upk 1 hb_ rfl rfl rfl), FB.out.trans (hbN.mono FB.out.size), fun _ => Kd.F_below FA.out hbN, fun _ => Kd.R_lower hs1 FB.out.size, fun _ => Kd.R_lower hs2 FB.out.size, fun h0_ => absurd ((hoff 3 (by kernel_rfl)).symm.trans h0_) (by decide), fun h0_ _ => absurd ((hoff 5 (by kernel_rfl)).symm.trans h0_) (by decide), fun h0_ => absurd ((hoff 7 (by kernel_rfl)).symm.trans h0_) (by decide), fun h0_ => absurd ((hoff 8 (by kernel_rfl)).symm.trans h0_) (by decide), fun h0_ => absurd ((hoff 9 (by kernel_rfl)).symm.trans h0_) (by decide), fun h0_ => absurd ((hoff 9 (by kernel_rfl)).symm.trans h0_) (by decide), fun _ => rfl, fun h0_ => absurd ((hoff 3 (by kernel_rfl)).symm.trans h0_) (by decide), fun h0_ => absurd ((hoff 5 (by kernel_rfl)).symm.trans h0_) (by decide), fun h0_ => absurd ((hoff 7 (by kernel_rfl)).symm.trans h0_) (by decide), fun h0_ => absurd ((hoff 8 (by kernel_rfl)).symm.trans h0_) (by decide), fun h0_ => absurd ((hoff 9 (by kernel_rfl)).symm.trans h0_) (by decide), fun h0_ => absurd ((hoff 10 (by kernel_rfl)).symm.trans h0_) (by decide), fun h0_ => absurd ((hoff 11 (by kernel_rfl)).symm.trans h0_) (by decide), fun h0_ => absurd ((hoff 12 (by kernel_rfl)).symm.trans h0_) (by decide), fun h0_ => absurd ((hoff 14 (by kernel_rfl)).symm.trans h0_) (by decide), fun h0_ => absurd ((hoff 15 (by kernel_rfl)).symm.trans h0_) (by decide)⟩
             refine steps_cons ?_ ?_
             ·rintro b a w' ⟨D1_, k1_, D2_, k2_, D5_, k5_, D3_, k3_, D4_, k4_, E1_, q1_, E2_, q2_, E3_, q3_, m1_, m3_, m5_, m7_, m8_, m9_, m10_, m11_, m12_, m14_, m15_, ha, Q_FB, Q_FA, Q_T1, Q_T2, Q_T5, Q_S3, Q_X4, Q_S4, Q_Y1, Q_Y2, Q_X1_, Q_X3_, Q_X5_, Q_X7_, Q_X8_, Q_X9_, Q_X10_, Q_X11_, Q_X12_, Q_X14_, Q_X15_⟩ hb_ hon hoff
              refine ⟨_, rfl, fun K hK => ?_⟩
              have e11 : a.tmps[11]? = some (.pointer (some ⟨g11, 0, none⟩)) := by rw [ha]; exact (putSel_off rfl).trans rfl
              replace ha := Aside0.mk ha
              have FB := Aside0.mk Q_FB
              have q0c_ := (FB.out.cell (p := ⟨g11, 0, none⟩) hg11).trans q0
              have q1c_ := (FB.out.cell (p := ⟨g11, 1, none⟩) hg11).trans q1
              have q2c_ := (FB.out.cell (p := ⟨g11, 2, none⟩) hg11).trans q2
              refine value_ (w1 := w') (v := .agg #[.slice B5 3 j5, .int .i64 1, .int .i64 400]) (by rfl) rfl ?_ ?_
              ·go_simp
               (try simp only [i64_w])
               try rfl
              refine hK.out _ _ ⟨D1_, k1_, D2_, k2_, D5_, k5_, D3_, k3_, D4_, k4_, E1_, q1_, E2_, q2_, E3_, q3_, m1_, m3_, m5_, m7_, m8_, m9_, m10_, m11_, m12_, m14_, m15_, (by rw [ha.out]; exact putSel_upk 2 hb_ rfl rfl rfl), Q_FB, Q_FA, Q_T1, Q_T2, fun h0_ => absurd ((hoff 3 (by kernel_rfl)).symm.trans h0_) (by decide), fun h0_ _ => absurd ((hoff 5 (by kernel_rfl)).symm.trans h0_) (by decide), fun h0_ => absurd ((hoff 7 (by kernel_rfl)).symm.trans h0_) (by decide), fun h0_ => absurd ((hoff 8 (by kernel_rfl)).symm.trans h0_) (by decide), fun h0_ => absurd ((hoff 9 (by kernel_rfl)).symm.trans h0_) (by decide), fun h0_ => absurd ((hoff 9 (by kernel_rfl)).symm.trans h0_) (by decide), Q_X1_, fun h0_ => absurd ((hoff 3 (by kernel_rfl)).symm.trans h0_) (by decide), fun h0_ => absurd ((hoff 5 (by kernel_rfl)).symm.trans h0_) (by decide), fun h0_ => absurd ((hoff 7 (by kernel_rfl)).symm.trans h0_) (by decide), fun h0_ => absurd ((hoff 8 (by kernel_rfl)).symm.trans h0_) (by decide), fun h0_ => absurd ((hoff 9 (by kernel_rfl)).symm.trans h0_) (by decide), fun h0_ => absurd ((hoff 10 (by kernel_rfl)).symm.trans h0_) (by decide), fun h0_ => absurd ((hoff 11 (by kernel_rfl)).symm.trans h0_) (by decide), fun h0_ => absurd ((hoff 12 (by kernel_rfl)).symm.trans h0_) (by decide), fun h0_ => absurd ((hoff 14 (by kernel_rfl)).symm.trans h0_) (by decide), fun h0_ => absurd ((hoff 15 (by kernel_rfl)).symm.trans h0_) (by decide)⟩
             refine steps_cons ?_ ?_
             ·rintro b a w' ⟨D1_, k1_, D2_, k2_, D5_, k5_, D3_, k3_, D4_, k4_, E1_, q1_, E2_, q2_, E3_, q3_, m1_, m3_, m5_, m7_, m8_, m9_, m10_, m11_, m12_, m14_, m15_, ha, Q_FB, Q_FA, Q_T1, Q_T2, Q_T5, Q_S3, Q_X4, Q_S4, Q_Y1, Q_Y2, Q_X1_, Q_X3_, Q_X5_, Q_X7_, Q_X8_, Q_X9_, Q_X10_, Q_X11_, Q_X12_, Q_X14_, Q_X15_⟩ hb_ hon hoff
              refine ⟨_, rfl, fun K hK => ?_⟩
              have e199 : a.tmps[199]? = some (.agg #[.slice B5 3 j5, .int .i64 1, .int .i64 400]) := by rw [ha]; exact putSel_on (e := (2, 199, .agg #[.slice B5 3 j5, .int .i64 1, .int .i64 400])) 2 rfl rfl (hon 2 (by kernel_rfl)) rfl
              replace ha := Aside0.mk ha
              have FB := Aside0.mk Q_FB
              have FA := Aside0.mk (Q_FA (hoff 7 (by kernel_rfl)))
              have T1 := Aside0.mk (Q_T1 (hon 1 (by kernel_rfl)))
              have T2 := Aside0.mk (Q_T2 (hon 1 (by kernel_rfl)))
              refine goes_ Tryz.func11 (by kernel_rfl) rfl #[.agg #[.slice B5 3 j5, .int .i64 1, .int .i64 400]] (by rfl) rfl rfl (by first | rfl | (simp [Act.eval, e199]; done)) ?_
              refine (HWR.out w' (below_step HBj.out FB.out)).mono ?_
              rintro e w2_ ⟨X5, y5, rfl, hs5, hbN⟩
              refine ⟨_, rfl, ?_⟩
              refine hK.out _ _ ⟨D1_, k1_, D2_, k2_, X5, y5, D3_, k3_, D4_, k4_, E1_, q1_, E2_, q2_, E3_, q3_, m1_, (.agg #[.slice X5 3 y5, .int .i64 1, .int .i64 400]), m5_, m7_, m8_, m9_, m10_, m11_, m12_, m14_, m15_, (by rw [ha.out]; exact putSel_upk 3 hb_ rfl rfl rfl), FB.out.trans (hbN.mono FB.out.size), fun _ => Kd.F_below FA.out hbN, fun _ => Kd.R_below T1.out hbN, fun _ => Kd.R_below T2.out hbN, fun _ => Kd.R_lower hs5 FB.out.size, fun h0_ _ => absurd ((hoff 5 (by kernel_rfl)).symm.trans h0_) (by decide), fun h0_ => absurd ((hoff 7 (by kernel_rfl)).symm.trans h0_) (by decide), fun h0_ => absurd ((hoff 8 (by kernel_rfl)).symm.trans h0_) (by decide), fun h0_ => absurd ((hoff 9 (by kernel_rfl)).symm.trans h0_) (by decide), fun h0_ => absurd ((hoff 9 (by kernel_rfl)).symm.trans h0_) (by decide), Q_X1_, fun _ => rfl, fun h0_ => absurd ((hoff 5 (by kernel_rfl)).symm.trans h0_) (by decide), fun h0_ => absurd ((hoff 7 (by kernel_rfl)).symm.trans h0_) (by decide), fun h0_ => absurd ((hoff 8 (by kernel_rfl)).symm.trans h0_) (by decide), fun h0_ => absurd ((hoff 9 (by kernel_rfl)).symm.trans h0_) (by decide), fun h0_ => absurd ((hoff 10 (by kernel_rfl)).symm.trans h0_) (by decide), fun h0_ => absurd ((hoff 11 (by kernel_rfl)).symm.trans h0_) (by decide), fun h0_ => absurd ((hoff 12 (by kernel_rfl)).symm.trans h0_) (by decide), fun h0_ => absurd ((hoff 14 (by kernel_rfl)).symm.trans h0_) (by decide), fun h0_ => absurd ((hoff 15 (by kernel_rfl)).symm.trans h0_) (by decide)⟩
             refine steps_cons ?_ ?_
             ·rintro b a w' ⟨D1_, k1_, D2_, k2_, D5_, k5_, D3_, k3_, D4_, k4_, E1_, q1_, E2_, q2_, E3_, q3_, m1_, m3_, m5_, m7_, m8_, m9_, m10_, m11_, m12_, m14_, m15_, ha, Q_FB, Q_FA, Q_T1, Q_T2, Q_T5, Q_S3, Q_X4, Q_S4, Q_Y1, Q_Y2, Q_X1_, Q_X3_, Q_X5_, Q_X7_, Q_X8_, Q_X9_, Q_X10_, Q_X11_, Q_X12_, Q_X14_, Q_X15_⟩ hb_ hon hoff
              refine ⟨_, rfl, fun K hK => ?_⟩
              have e10 : a.tmps[10]? = some (.slice B3 l.length j3) := by rw [ha]; exact (putSel_off rfl).trans rfl
              replace ha := Aside0.mk ha
              refine value_ (w1 := w') (v := .slice B3 l.length j3) (by rfl) rfl ?_ ?_
              ·go_simp
               (try simp only [i64_w])
               try rfl
              refine hK.out _ _ ⟨D1_, k1_, D2_, k2_, D5_, k5_, D3_, k3_, D4_, k4_, E1_, q1_, E2_, q2_, E3_, q3_, m1_, m3_, m5_, m7_, m8_, m9_, m10_, m11_, m12_, m14_, m15_, (by rw [ha.out]; exact putSel_upk 4 hb_ rfl rfl rfl), Q_FB, Q_FA, Q_T1, Q_T2, Q_T5, fun h0_ _ => absurd ((hoff 5 (by kernel_rfl)).symm.trans h0_) (by decide), fun h0_ => absurd ((hoff 7 (by kernel_rfl)).symm.trans h0_) (by decide), fun h0_ => absurd ((hoff 8 (by kernel_rfl)).symm.trans h0_) (by decide), fun h0_ => absurd ((hoff 9 (by kernel_rfl)).symm.trans h0_) (by decide), fun h0_ => absurd ((hoff 9 (by kernel_rfl)).symm.trans h0_) (by decide), Q_X1_, Q_X3_, fun h0_ => absurd ((hoff 5 (by kernel_rfl)).symm.trans h0_) (by decide), fun h0_ => absurd ((hoff 7 (by kernel_rfl)).symm.trans h0_) (by decide), fun h0_ => absurd ((hoff 8 (by kernel_rfl)).symm.trans h0_) (by decide), fun h0_ => absurd ((hoff 9 (by kernel_rfl)).symm.trans h0_) (by decide), fun h0_ => absurd ((hoff 10 (by kernel_rfl)).symm.trans h0_) (by decide), fun h0_ => absurd ((hoff 11 (by kernel_rfl)).symm.trans h0_) (by decide), fun h0_ => absurd ((hoff 12 (by kernel_rfl)).symm.trans h0_) (by decide), fun h0_ => absurd ((hoff 14 (by kernel_rfl)).symm.trans h0_) (by decide), fun h0_ => absurd ((hoff 15 (by kernel_rfl)).symm.trans h0_) (by decide)⟩
             refine steps_cons ?_ ?_
             ·rintro b a w' ⟨D1_, k1_, D2_, k2_, D5_, k5_, D3_, k3_, D4_, k4_, E1_, q1_, E2_, q2_, E3_, q3_, m1_, m3_, m5_, m7_, m8_, m9_, m10_, m11_, m12_, m14_, m15_, ha, Q_FB, Q_FA, Q_T1, Q_T2, Q_T5, Q_S3, Q_X4, Q_S4, Q_Y1, Q_Y2, Q_X1_, Q_X3_, Q_X5_, Q_X7_, Q_X8_, Q_X9_, Q_X10_, Q_X11_, Q_X12_, Q_X14_, Q_X15_⟩ hb_ hon hoff
              refine ⟨_, rfl, fun K hK => ?_⟩
              have e201 : a.tmps[201]? = some (.slice B3 l.length j3) := by rw [ha]; exact putSel_on (e := (4, 201, .slice B3 l.length j3)) 4 rfl rfl (hon 4 (by kernel_rfl)) rfl
              replace ha := Aside0.mk ha
              have FB := Aside0.mk Q_FB
              have FA := Aside0.mk (Q_FA (hoff 7 (by kernel_rfl)))
              have T1 := Aside0.mk (Q_T1 (hon 1 (by kernel_rfl)))
              have T2 := Aside0.mk (Q_T2 (hon 1 (by kernel_rfl)))
              have T5 := Aside0.mk (Q_T5 (hon 3 (by kernel_rfl)))
              refine goes_ Tryz.func12 (by kernel_rfl) rfl #[.slice B3 l.length j3] (by rfl) rfl rfl (by first | rfl | (simp [Act.eval, e201]; done)) ?_
              refine (HSG.out w' (below_step HBj.out FB.out)).mono ?_
              rintro e w2_ ⟨u3, rfl, hs3, hbN⟩
              obtain ⟨X3, y3, rfl⟩ := Kd.S_slice hs3
              refine ⟨_, rfl, ?_⟩
              refine hK.out _ _ ⟨D1_, k1_, D2_, k2_, D5_, k5_, X3, y3, D4_, k4_, E1_, q1_, E2_, q2_, E3_, q3_, m1_, m3_, (.slice X3 l.length y3), m7_, m8_, m9_, m10_, m11_, m12_, m14_, m15_, (by rw [ha.out]; exact putSel_upk 5 hb_ rfl rfl rfl), FB.out.trans (hbN.mono FB.out.size), fun _ => Kd.F_below FA.out hbN, fun _ => Kd.R_below T1.out hbN, fun _ => Kd.R_below T2.out hbN, fun _ => Kd.R_below T5.out hbN, fun _ _ => Kd.N_lower (Kd.S_N hs3) FB.out.size, fun h0_ => absurd ((hoff 7 (by kernel_rfl)).symm.trans h0_) (by decide), fun h0_ => absurd ((hoff 8 (by kernel_rfl)).symm.trans h0_) (by decide), fun h0_ => absurd ((hoff 9 (by kernel_rfl)).symm.trans h0_) (by decide), fun h0_ => absurd ((hoff 9 (by kernel_rfl)).symm.trans h0_) (by decide), Q_X1_, Q_X3_, fun _ => rfl, fun h0_ => absurd ((hoff 7 (by kernel_rfl)).symm.trans h0_) (by decide), fun h0_ => absurd ((hoff 8 (by kernel_rfl)).symm.trans h0_) (by decide), fun h0_ => absurd ((hoff 9 (by kernel_rfl)).symm.trans h0_) (by decide), fun h0_ => absurd ((hoff 10 (by kernel_rfl)).symm.trans h0_) (by decide), fun h0_ => absurd ((hoff 11 (by kernel_rfl)).symm.trans h0_) (by decide), fun h0_ => absurd ((hoff 12 (by kernel_rfl)).symm.trans h0_) (by decide), fun h0_ => absurd ((hoff 14 (by kernel_rfl)).symm.trans h0_) (by decide), fun h0_ => absurd ((hoff 15 (by kernel_rfl)).symm.trans h0_) (by decide)⟩
             refine steps_cons ?_ ?_
             ·rintro b a w' ⟨D1_, k1_, D2_, k2_, D5_, k5_, D3_, k3_, D4_, k4_, E1_, q1_, E2_, q2_, E3_, q3_, m1_, m3_, m5_, m7_, m8_, m9_, m10_, m11_, m12_, m14_, m15_, ha, Q_FB, Q_FA, Q_T1, Q_T2, Q_T5, Q_S3, Q_X4, Q_S4, Q_Y1, Q_Y2, Q_X1_, Q_X3_, Q_X5_, Q_X7_, Q_X8_, Q_X9_, Q_X10_, Q_X11_, Q_X12_, Q_X14_, Q_X15_⟩ hb_ hon hoff
              refine ⟨_, rfl, fun K hK => ?_⟩
              have e23 : a.tmps[23]? = some (.slice A23 an.length c23) := by rw [ha]; exact (putSel_off rfl).trans rfl
              replace ha := Aside0.mk ha
              refine value_ (w1 := w') (v := .slice A23 an.length c23) (by rfl) rfl ?_ ?_
              ·go_simp
               (try simp only [i64_w])
               try rfl
              refine hK.out _ _ ⟨D1_, k1_, D2_, k2_, D5_, k5_, D3_, k3_, D4_, k4_, E1_, q1_, E2_, q2_, E3_, q3_, m1_, m3_, m5_, m7_, m8_, m9_, m10_, m11_, m12_, m14_, m15_, (by rw [ha.out]; exact putSel_upk 6 hb_ rfl rfl rfl), Q_FB, Q_FA, Q_T1, Q_T2, Q_T5, Q_S3, fun h0_ => absurd ((hoff 7 (by kernel_rfl)).symm.trans h0_) (by decide), fun h0_ => absurd ((hoff 8 (by kernel_rfl)).symm.trans h0_) (by decide), fun h0_ => absurd ((hoff 9 (by kernel_rfl)).symm.trans h0_) (by decide), fun h0_ => absurd ((hoff 9 (by kernel_rfl)).symm.trans h0_) (by decide), Q_X1_, Q_X3_, Q_X5_, fun h0_ => absurd ((hoff 7 (by kernel_rfl)).symm.trans h0_) (by decide), fun h0_ => absurd ((hoff 8 (by kernel_rfl)).symm.trans h0_) (by decide), fun h0_ => absurd ((hoff 9 (by kernel_rfl)).symm.trans h0_) (by decide), fun h0_ => absurd ((hoff 10 (by kernel_rfl)).symm.trans h0_) (by decide), fun h0_ => absurd ((hoff 11 (by kernel_rfl)).symm.trans h0_) (by decide), fun h0_ => absurd ((hoff 12 (by kernel_rfl)).symm.trans h0_) (by decide), fun h0_ => absurd ((hoff 14 (by kernel_rfl)).symm.trans h0_) (by decide), fun h0_ => absurd ((hoff 15 (by kernel_rfl)).symm.trans h0_) (by decide)⟩
             refine steps_cons ?_ ?_
             ·rintro b a w' ⟨D1_, k1_, D2_, k2_, D5_, k5_, D3_, k3_, D4_, k4_, E1_, q1_, E2_, q2_, E3_, q3_, m1_, m3_, m5_, m7_, m8_, m9_, m10_, m11_, m12_, m14_, m15_, ha, Q_FB, Q_FA, Q_T1, Q_T2, Q_T5, Q_S3, Q_X4, Q_S4, Q_Y1, Q_Y2, Q_X1_, Q_X3_, Q_X5_, Q_X7_, Q_X8_, Q_X9_, Q_X10_, Q_X11_, Q_X12_, Q_X14_, Q_X15_⟩ hb_ hon hoff
              refine ⟨_, rfl, fun K hK => ?_⟩
              have e202 : a.tmps[202]? = some (m5_) := by rw [ha]; exact putSel_on (e := (5, 202, m5_)) 5 rfl rfl (hon 5 (by kernel_rfl)) rfl
              rw [Q_X5_ (hon 5 (by kernel_rfl))] at e202
              have e203 : a.tmps[203]? = some (.slice A23 an.length c23) := by rw [ha]; exact putSel_on (e := (6, 203, .slice A23 an.length c23)) 6 rfl rfl (hon 6 (by kernel_rfl)) rfl
              replace ha := Aside0.mk ha
              have FB := Aside0.mk Q_FB
              have FA := Aside0.mk (Q_FA hb_)
              have T1 := Aside0.mk (Q_T1 (hon 1 (by kernel_rfl)))
              have T2 := Aside0.mk (Q_T2 (hon 1 (by kernel_rfl)))
              have T5 := Aside0.mk (Q_T5 (hon 3 (by kernel_rfl)))
              have S3 := Aside0.mk (Q_S3 (hon 5 (by kernel_rfl)) hb_)
              refine Kd.N_append_rows_step k47 (w0 := wj) wj.heap.size (by rfl) (.tmp 202) (.tmp 203) 34 47 (.agg #[.int .i64 0, .int .i64 0, .int .i64 0, .slice none 0 0]) 48 rfl Tryz.underlying34 infoSign rfl (by decide) (by decide) (.slice D3_ l.length k3_) l an A23 an.length c23 (fun _ => True) (fun k => True ∧ k < wj.heap.size) (eval_of e202) (eval_of e203) S3.out FA.out (fun k hk => ⟨trivial, fun e => by have := Kd.N_base S3.out k e.symm; omega⟩) (fun _ _ => trivial) FB.out FB.out.size (by omega) ?_
              intro v9 w9 ho hb hg _
              rw [← HLA.out] at ho
              obtain ⟨X9, y9, e9, h9, hc9⟩ := Kd.N_reads ho
              subst e9
              refine hK.out _ _ ⟨D1_, k1_, D2_, k2_, D5_, k5_, D3_, k3_, D4_, k4_, E1_, q1_, E2_, q2_, X9, y9, m1_, m3_, m5_, (.slice X9 la.length y9), m8_, m9_, m10_, m11_, m12_, m14_, m15_, (by rw [ha.out]; exact putSel_upk 7 hb_ rfl rfl rfl), hb, fun h0_ => absurd ((up_self b 7).symm.trans h0_) (by decide), fun _ => Kd.R_over' T1.out (Kd.N_typed S3.out) (by decide) hg, fun _ => Kd.R_over' T2.out (Kd.N_typed S3.out) (by decide) hg, fun _ => Kd.R_over' T5.out (Kd.N_typed S3.out) (by decide) hg, fun _ h1_ => absurd ((up_self b 7).symm.trans h1_) (by decide), fun _ => ⟨h9, hc9⟩, fun h0_ => absurd ((hoff 8 (by kernel_rfl)).symm.trans h0_) (by decide), fun h0_ => absurd ((hoff 9 (by kernel_rfl)).symm.trans h0_) (by decide), fun h0_ => absurd ((hoff 9 (by kernel_rfl)).symm.trans h0_) (by decide), Q_X1_, Q_X3_, Q_X5_, fun _ => rfl, fun h0_ => absurd ((hoff 8 (by kernel_rfl)).symm.trans h0_) (by decide), fun h0_ => absurd ((hoff 9 (by kernel_rfl)).symm.trans h0_) (by decide), fun h0_ => absurd ((hoff 10 (by kernel_rfl)).symm.trans h0_) (by decide), fun h0_ => absurd ((hoff 11 (by kernel_rfl)).symm.trans h0_) (by decide), fun h0_ => absurd ((hoff 12 (by kernel_rfl)).symm.trans h0_) (by decide), fun h0_ => absurd ((hoff 14 (by kernel_rfl)).symm.trans h0_) (by decide), fun h0_ => absurd ((hoff 15 (by kernel_rfl)).symm.trans h0_) (by decide)⟩
             refine steps_cons ?_ ?_
             ·rintro b a w' ⟨D1_, k1_, D2_, k2_, D5_, k5_, D3_, k3_, D4_, k4_, E1_, q1_, E2_, q2_, E3_, q3_, m1_, m3_, m5_, m7_, m8_, m9_, m10_, m11_, m12_, m14_, m15_, ha, Q_FB, Q_FA, Q_T1, Q_T2, Q_T5, Q_S3, Q_X4, Q_S4, Q_Y1, Q_Y2, Q_X1_, Q_X3_, Q_X5_, Q_X7_, Q_X8_, Q_X9_, Q_X10_, Q_X11_, Q_X12_, Q_X14_, Q_X15_⟩ hb_ hon hoff
              refine ⟨_, rfl, fun K hK => ?_⟩
              have e204 : a.tmps[204]? = some (m7_) := by rw [ha]; exact putSel_on (e := (7, 204, m7_)) 7 rfl rfl (hon 7 (by kernel_rfl)) rfl
              rw [Q_X7_ (hon 7 (by kernel_rfl))] at e204
              replace ha := Aside0.mk ha
              have FB := Aside0.mk Q_FB
              have T1 := Aside0.mk (Q_T1 (hon 1 (by kernel_rfl)))
              have T2 := Aside0.mk (Q_T2 (hon 1 (by kernel_rfl)))
              have T5 := Aside0.mk (Q_T5 (hon 3 (by kernel_rfl)))
              have X4 := Aside0.mk (Q_X4 (hon 7 (by kernel_rfl)))
              refine goes_ Tryz.func12 (by kernel_rfl) rfl #[.slice E3_ la.length q3_] (by rfl) rfl rfl (by first | rfl | (simp [Act.eval, e204]; done)) ?_
              refine (HSL.out E3_ q3_ X4.out.1 w' X4.out.2).mono ?_
              rintro e w2_ ⟨u3, rfl, hs3, hbN⟩
              obtain ⟨X3, y3, rfl⟩ := Kd.S_slice hs3
              refine ⟨_, rfl, ?_⟩
              refine hK.out _ _ ⟨D1_, k1_, D2_, k2_, D5_, k5_, D3_, k3_, X3, y3, E1_, q1_, E2_, q2_, E3_, q3_, m1_, m3_, m5_, m7_, (.slice X3 la.length y3), m9_, m10_, m11_, m12_, m14_, m15_, (by rw [ha.out]; exact putSel_upk 8 hb_ rfl rfl rfl), FB.out.trans (hbN.mono FB.out.size), fun h0_ => absurd ((hon 7 (by kernel_rfl)).symm.trans h0_) (by decide), fun _ => Kd.R_below T1.out hbN, fun _ => Kd.R_below T2.out hbN, fun _ => Kd.R_below T5.out hbN, fun _ h1_ => absurd ((hon 7 (by kernel_rfl)).symm.trans h1_) (by decide), fun _ => ⟨X4.out.1, Kd.C_below X4.out.2 hbN⟩, fun _ => (Kd.S_reads' hs3).2.2, fun h0_ => absurd ((hoff 9 (by kernel_rfl)).symm.trans h0_) (by decide), fun h0_ => absurd ((hoff 9 (by kernel_rfl)).symm.trans h0_) (by decide), Q_X1_, Q_X3_, Q_X5_, Q_X7_, fun _ => rfl, fun h0_ => absurd ((hoff 9 (by kernel_rfl)).symm.trans h0_) (by decide), fun h0_ => absurd ((hoff 10 (by kernel_rfl)).symm.trans h0_) (by decide), fun h0_ => absurd ((hoff 11 (by kernel_rfl)).symm.trans h0_) (by decide), fun h0_ => absurd ((hoff 12 (by kernel_rfl)).symm.trans h0_) (by decide), fun h0_ => absurd ((hoff 14 (by kernel_rfl)).symm.trans h0_) (by decide), fun h0_ => absurd ((hoff 15 (by kernel_rfl)).symm.trans h0_) (by decide)⟩
             refine steps_cons ?_ ?_
             ·rintro b a w' ⟨D1_, k1_, D2_, k2_, D5_, k5_, D3_, k3_, D4_, k4_, E1_, q1_, E2_, q2_, E3_, q3_, m1_, m3_, m5_, m7_, m8_, m9_, m10_, m11_, m12_, m14_, m15_, ha, Q_FB, Q_FA, Q_T1, Q_T2, Q_T5, Q_S3, Q_X4, Q_S4, Q_Y1, Q_Y2, Q_X1_, Q_X3_, Q_X5_, Q_X7_, Q_X8_, Q_X9_, Q_X10_, Q_X11_, Q_X12_, Q_X14_, Q_X15_⟩ hb_ hon hoff
              refine ⟨_, rfl, fun K hK => ?_⟩
              have e198 : a.tmps[198]? = some (m1_) := by rw [ha]; exact putSel_on (e := (1, 198, m1_)) 1 rfl rfl (hon 1 (by kernel_rfl)) rfl
              rw [Q_X1_ (hon 1 (by kernel_rfl))] at e198
              have e200 : a.tmps[200]? = some (m3_) := by rw [ha]; exact putSel_on (e := (3, 200, m3_)) 3 rfl rfl (hon 3 (by kernel_rfl)) rfl
              rw [Q_X3_ (hon 3 (by kernel_rfl))] at e200
              have e205 : a.tmps[205]? = some (m8_) := by rw [ha]; exact putSel_on (e := (8, 205, m8_)) 8 rfl rfl (hon 8 (by kernel_rfl)) rfl
              rw [Q_X8_ (hon 8 (by kernel_rfl))] at e205
              replace ha := Aside0.mk ha
              have FB := Aside0.mk Q_FB
              have T1 := Aside0.mk (Q_T1 (hon 1 (by kernel_rfl)))
              have T2 := Aside0.mk (Q_T2 (hon 1 (by kernel_rfl)))
              have T5 := Aside0.mk (Q_T5 (hon 3 (by kernel_rfl)))
              have X4 := Aside0.mk (Q_X4 (hon 7 (by kernel_rfl)))
              have S4 := Aside0.mk (Q_S4 (hon 8 (by kernel_rfl)))
              refine goes_ Tryz.func10 (by kernel_rfl) rfl #[.agg #[.slice D1_ 3 k1_, .slice D2_ chg.length k2_], .agg #[.slice D5_ 3 k5_, .int .i64 1, .int .i64 400], .slice D4_ la.length k4_] (by rfl) rfl rfl (by first | rfl | (simp [Act.eval, e198, e200, e205]; done)) ?_
              have hc5_ := (Kd.R_reads' T5.out).2.2
              rw [hss] at hc5_
              refine (HYR.out D1_ D2_ D5_ D4_ k1_ k2_ k5_ k4_ HOW.out la HOL.out (by omega) w' (Kd.R_reads' T1.out).2.2 (Kd.R_reads' T2.out).2.2 hc5_ S4.out).mono ?_
              rintro e w2_ ⟨u1, u2, rfl, hr1, hr2, hbN⟩
              replace hr1 : Kd.string.R 9 w2_ w'.heap.size (fun _ => True) u1 (saysOf chg la) := hr1
              replace hr2 : k58.R 58 w2_ w'.heap.size (fun _ => True) u2 (usesS ss la) := hr2
              obtain ⟨Z1, n1, rfl⟩ := Kd.R_slice hr1
              obtain ⟨Z2, n2, rfl⟩ := Kd.R_slice hr2
              rw [saysOf_length] at hr1 ⊢
              rw [usesS_length, hss] at hr2 ⊢
              refine ⟨_, rfl, ?_⟩
              refine hK.out _ _ ⟨D1_, k1_, D2_, k2_, D5_, k5_, D3_, k3_, D4_, k4_, Z1, n1, Z2, n2, E3_, q3_, m1_, m3_, m5_, m7_, m8_, (.tuple #[.slice Z1 la.length n1, .slice Z2 3 n2, .int .i64 0]), m10_, m11_, m12_, m14_, m15_, (by rw [ha.out]; exact putSel_upk 9 hb_ rfl rfl rfl), FB.out.trans (hbN.mono FB.out.size), fun h0_ => absurd ((hon 7 (by kernel_rfl)).symm.trans h0_) (by decide), fun _ => Kd.R_below T1.out hbN, fun _ => Kd.R_below T2.out hbN, fun _ => Kd.R_below T5.out hbN, fun _ h1_ => absurd ((hon 7 (by kernel_rfl)).symm.trans h1_) (by decide), fun _ => ⟨X4.out.1, Kd.C_below X4.out.2 hbN⟩, fun _ => Kd.C_below S4.out hbN, fun _ => Kd.R_lower hr1 FB.out.size, fun _ => Kd.R_lower hr2 FB.out.size, Q_X1_, Q_X3_, Q_X5_, Q_X7_, Q_X8_, fun _ => rfl, fun h0_ => absurd ((hoff 10 (by kernel_rfl)).symm.trans h0_) (by decide), fun h0_ => absurd ((hoff 11 (by kernel_rfl)).symm.trans h0_) (by decide), fun h0_ => absurd ((hoff 12 (by kernel_rfl)).symm.trans h0_) (by decide), fun h0_ => absurd ((hoff 14 (by kernel_rfl)).symm.trans h0_) (by decide), fun h0_ => absurd ((hoff 15 (by kernel_rfl)).symm.trans h0_) (by decide)⟩
             refine steps_cons ?_ ?_
             ·rintro b a w' ⟨D1_, k1_, D2_, k2_, D5_, k5_, D3_, k3_, D4_, k4_, E1_, q1_, E2_, q2_, E3_, q3_, m1_, m3_, m5_, m7_, m8_, m9_, m10_, m11_, m12_, m14_, m15_, ha, Q_FB, Q_FA, Q_T1, Q_T2, Q_T5, Q_S3, Q_X4, Q_S4, Q_Y1, Q_Y2, Q_X1_, Q_X3_, Q_X5_, Q_X7_, Q_X8_, Q_X9_, Q_X10_, Q_X11_, Q_X12_, Q_X14_, Q_X15_⟩ hb_ hon hoff
              refine ⟨_, rfl, fun K hK => ?_⟩
              have e206 : a.tmps[206]? = some (m9_) := by rw [ha]; exact putSel_on (e := (9, 206, m9_)) 9 rfl rfl (hon 9 (by kernel_rfl)) rfl
              rw [Q_X9_ (hon 9 (by kernel_rfl))] at e206
              replace ha := Aside0.mk ha
              refine value_ (w1 := w') (v := .tuple #[.slice E1_ la.length q1_, .slice E2_ 3 q2_, .int .i64 0]) (by rfl) rfl ?_ ?_
              ·go_simp
               (try simp only [i64_w])
               try rfl
              refine hK.out _ _ ⟨D1_, k1_, D2_, k2_, D5_, k5_, D3_, k3_, D4_, k4_, E1_, q1_, E2_, q2_, E3_, q3_, m1_, m3_, m5_, m7_, m8_, m9_, (.tuple #[.slice E1_ la.length q1_, .slice E2_ 3 q2_, .int .i64 0]), m11_, m12_, m14_, m15_, (by rw [ha.out]; exact putSel_upk 10 hb_ rfl rfl rfl), Q_FB, fun h0_ => absurd ((hon 7 (by kernel_rfl)).symm.trans h0_) (by decide), Q_T1, Q_T2, Q_T5, fun _ h1_ => absurd ((hon 7 (by kernel_rfl)).symm.trans h1_) (by decide), Q_X4, Q_S4, Q_Y1, Q_Y2, Q_X1_, Q_X3_, Q_X5_, Q_X7_, Q_X8_, Q_X9_, fun _ => rfl, fun h0_ => absurd ((hoff 11 (by kernel_rfl)).symm.trans h0_) (by decide), fun h0_ => absurd ((hoff 12 (by kernel_rfl)).symm.trans h0_) (by decide), fun h0_ => absurd ((hoff 14 (by kernel_rfl)).symm.trans h0_) (by decide), fun h0_ => absurd ((hoff 15 (by kernel_rfl)).symm.trans h0_) (by decide)⟩
             refine steps_cons ?_ ?_
             ·rintro b a w' ⟨D1_, k1_, D2_, k2_, D5_, k5_, D3_, k3_, D4_, k4_, E1_, q1_, E2_, q2_, E3_, q3_, m1_, m3_, m5_, m7_, m8_, m9_, m10_, m11_, m12_, m14_, m15_, ha, Q_FB, Q_FA, Q_T1, Q_T2, Q_T5, Q_S3, Q_X4, Q_S4, Q_Y1, Q_Y2, Q_X1_, Q_X3_, Q_X5_, Q_X7_, Q_X8_, Q_X9_, Q_X10_, Q_X11_, Q_X12_, Q_X14_, Q_X15_⟩ hb_ hon hoff
              refine ⟨_, rfl, fun K hK => ?_⟩
              have e196 : a.tmps[196]? = some (m10_) := by rw [ha]; exact putSel_on (e := (10, 196, m10_)) 10 rfl rfl (hon 10 (by kernel_rfl)) rfl
              rw [Q_X10_ (hon 10 (by kernel_rfl))] at e196
              replace ha := Aside0.mk ha
              refine value_ (w1 := w') (v := .slice E1_ la.length q1_) (by rfl) rfl ?_ ?_
              ·go_simp
               (try simp only [i64_w])
               try rfl
              refine hK.out _ _ ⟨D1_, k1_, D2_, k2_, D5_, k5_, D3_, k3_, D4_, k4_, E1_, q1_, E2_, q2_, E3_, q3_, m1_, m3_, m5_, m7_, m8_, m9_, m10_, (.slice E1_ la.length q1_), m12_, m14_, m15_, (by rw [ha.out]; exact putSel_upk 11 hb_ rfl rfl rfl), Q_FB, fun h0_ => absurd ((hon 7 (by kernel_rfl)).symm.trans h0_) (by decide), Q_T1, Q_T2, Q_T5, fun _ h1_ => absurd ((hon 7 (by kernel_rfl)).symm.trans h1_) (by decide), Q_X4, Q_S4, Q_Y1, Q_Y2, Q_X1_, Q_X3_, Q_X5_, Q_X7_, Q_X8_, Q_X9_, Q_X10_, fun _ => rfl, Q_X12_, fun h0_ => absurd ((hoff 14 (by kernel_rfl)).symm.trans h0_) (by decide), fun h0_ => absurd ((hoff 15 (by kernel_rfl)).symm.trans h0_) (by decide)⟩
             refine steps_cons ?_ ?_
             ·rintro b a w' ⟨D1_, k1_, D2_, k2_, D5_, k5_, D3_, k3_, D4_, k4_, E1_, q1_, E2_, q2_, E3_, q3_, m1_, m3_, m5_, m7_, m8_, m9_, m10_, m11_, m12_, m14_, m15_, ha, Q_FB, Q_FA, Q_T1, Q_T2, Q_T5, Q_S3, Q_X4, Q_S4, Q_Y1, Q_Y2, Q_X1_, Q_X3_, Q_X5_, Q_X7_, Q_X8_, Q_X9_, Q_X10_, Q_X11_, Q_X12_, Q_X14_, Q_X15_⟩ hb_ hon hoff
              refine ⟨_, rfl, fun K hK => ?_⟩
              have e196 : a.tmps[196]? = some (m10_) := by rw [ha]; exact putSel_on (e := (10, 196, m10_)) 10 rfl rfl (hon 10 (by kernel_rfl)) rfl
              rw [Q_X10_ (hon 10 (by kernel_rfl))] at e196
              replace ha := Aside0.mk ha
              refine value_ (w1 := w') (v := .slice E2_ 3 q2_) (by rfl) rfl ?_ ?_
              ·go_simp
               (try simp only [i64_w])
               try rfl
              refine hK.out _ _ ⟨D1_, k1_, D2_, k2_, D5_, k5_, D3_, k3_, D4_, k4_, E1_, q1_, E2_, q2_, E3_, q3_, m1_, m3_, m5_, m7_, m8_, m9_, m10_, m11_, (.slice E2_ 3 q2_), m14_, m15_, (by rw [ha.out]; exact putSel_upk 12 hb_ rfl rfl rfl), Q_FB, fun h0_ => absurd ((hon 7 (by kernel_rfl)).symm.trans h0_) (by decide), Q_T1, Q_T2, Q_T5, fun _ h1_ => absurd ((hon 7 (by kernel_rfl)).symm.trans h1_) (by decide), Q_X4, Q_S4, Q_Y1, Q_Y2, Q_X1_, Q_X3_, Q_X5_, Q_X7_, Q_X8_, Q_X9_, Q_X10_, Q_X11_, fun _ => rfl, Q_X14_, fun h0_ => absurd ((hoff 15 (by kernel_rfl)).symm.trans h0_) (by decide)⟩
             refine steps_cons ?_ ?_
             ·rintro b a w' ⟨D1_, k1_, D2_, k2_, D5_, k5_, D3_, k3_, D4_, k4_, E1_, q1_, E2_, q2_, E3_, q3_, m1_, m3_, m5_, m7_, m8_, m9_, m10_, m11_, m12_, m14_, m15_, ha, Q_FB, Q_FA, Q_T1, Q_T2, Q_T5, Q_S3, Q_X4, Q_S4, Q_Y1, Q_Y2, Q_X1_, Q_X3_, Q_X5_, Q_X7_, Q_X8_, Q_X9_, Q_X10_, Q_X11_, Q_X12_, Q_X14_, Q_X15_⟩ hb_ hon hoff
              refine ⟨_, rfl, fun K hK => ?_⟩
              have e196 : a.tmps[196]? = some (m10_) := by rw [ha]; exact putSel_on (e := (10, 196, m10_)) 10 rfl rfl (hon 10 (by kernel_rfl)) rfl
              rw [Q_X10_ (hon 10 (by kernel_rfl))] at e196
              replace ha := Aside0.mk ha
              refine value_ (w1 := w') (v := .int .i64 0) (by rfl) rfl ?_ ?_
              ·go_simp
               (try simp only [i64_w])
               try rfl
              refine hK.out _ _ ⟨D1_, k1_, D2_, k2_, D5_, k5_, D3_, k3_, D4_, k4_, E1_, q1_, E2_, q2_, E3_, q3_, m1_, m3_, m5_, m7_, m8_, m9_, m10_, m11_, m12_, m14_, m15_, (by rw [ha.out]; exact putSel_upk 13 hb_ rfl rfl rfl), Q_FB, fun h0_ => absurd ((hon 7 (by kernel_rfl)).symm.trans h0_) (by decide), Q_T1, Q_T2, Q_T5, fun _ h1_ => absurd ((hon 7 (by kernel_rfl)).symm.trans h1_) (by decide), Q_X4, Q_S4, Q_Y1, Q_Y2, Q_X1_, Q_X3_, Q_X5_, Q_X7_, Q_X8_, Q_X9_, Q_X10_, Q_X11_, Q_X12_, Q_X14_, Q_X15_⟩
             refine steps_cons ?_ ?_
             ·rintro b a w' ⟨D1_, k1_, D2_, k2_, D5_, k5_, D3_, k3_, D4_, k4_, E1_, q1_, E2_, q2_, E3_, q3_, m1_, m3_, m5_, m7_, m8_, m9_, m10_, m11_, m12_, m14_, m15_, ha, Q_FB, Q_FA, Q_T1, Q_T2, Q_T5, Q_S3, Q_X4, Q_S4, Q_Y1, Q_Y2, Q_X1_, Q_X3_, Q_X5_, Q_X7_, Q_X8_, Q_X9_, Q_X10_, Q_X11_, Q_X12_, Q_X14_, Q_X15_⟩ hb_ hon hoff
              refine ⟨_, rfl, fun K hK => ?_⟩
              have e207 : a.tmps[207]? = some (m11_) := by rw [ha]; exact putSel_on (e := (11, 207, m11_)) 11 rfl rfl (hon 11 (by kernel_rfl)) rfl
              rw [Q_X11_ (hon 11 (by kernel_rfl))] at e207
              replace ha := Aside0.mk ha
              refine value_ (w1 := w') (v := .slice E1_ la.length q1_) (by rfl) rfl ?_ ?_
              ·go_simp
               (try simp only [i64_w])
               try rfl
              refine hK.out _ _ ⟨D1_, k1_, D2_, k2_, D5_, k5_, D3_, k3_, D4_, k4_, E1_, q1_, E2_, q2_, E3_, q3_, m1_, m3_, m5_, m7_, m8_, m9_, m10_, m11_, m12_, (.slice E1_ la.length q1_), m15_, (by rw [ha.out]; exact putSel_upk 14 hb_ rfl rfl rfl), Q_FB, fun h0_ => absurd ((hon 7 (by kernel_rfl)).symm.trans h0_) (by decide), Q_T1, Q_T2, Q_T5, fun _ h1_ => absurd ((hon 7 (by kernel_rfl)).symm.trans h1_) (by decide), Q_X4, Q_S4, Q_Y1, Q_Y2, Q_X1_, Q_X3_, Q_X5_, Q_X7_, Q_X8_, Q_X9_, Q_X10_, Q_X11_, Q_X12_, fun _ => rfl, fun h0_ => absurd ((hoff 15 (by kernel_rfl)).symm.trans h0_) (by decide)⟩
             refine steps_cons ?_ ?_
             ·rintro b a w' ⟨D1_, k1_, D2_, k2_, D5_, k5_, D3_, k3_, D4_, k4_, E1_, q1_, E2_, q2_, E3_, q3_, m1_, m3_, m5_, m7_, m8_, m9_, m10_, m11_, m12_, m14_, m15_, ha, Q_FB, Q_FA, Q_T1, Q_T2, Q_T5, Q_S3, Q_X4, Q_S4, Q_Y1, Q_Y2, Q_X1_, Q_X3_, Q_X5_, Q_X7_, Q_X8_, Q_X9_, Q_X10_, Q_X11_, Q_X12_, Q_X14_, Q_X15_⟩ hb_ hon hoff
              refine ⟨_, rfl, fun K hK => ?_⟩
              have e208 : a.tmps[208]? = some (m12_) := by rw [ha]; exact putSel_on (e := (12, 208, m12_)) 12 rfl rfl (hon 12 (by kernel_rfl)) rfl
              rw [Q_X12_ (hon 12 (by kernel_rfl))] at e208
              replace ha := Aside0.mk ha
              refine value_ (w1 := w') (v := .slice E2_ 3 q2_) (by rfl) rfl ?_ ?_
              ·go_simp
               (try simp only [i64_w])
               try rfl
              refine hK.out _ _ ⟨D1_, k1_, D2_, k2_, D5_, k5_, D3_, k3_, D4_, k4_, E1_, q1_, E2_, q2_, E3_, q3_, m1_, m3_, m5_, m7_, m8_, m9_, m10_, m11_, m12_, m14_, (.slice E2_ 3 q2_), (by rw [ha.out]; exact putSel_upk 15 hb_ rfl rfl rfl), Q_FB, fun h0_ => absurd ((hon 7 (by kernel_rfl)).symm.trans h0_) (by decide), Q_T1, Q_T2, Q_T5, fun _ h1_ => absurd ((hon 7 (by kernel_rfl)).symm.trans h1_) (by decide), Q_X4, Q_S4, Q_Y1, Q_Y2, Q_X1_, Q_X3_, Q_X5_, Q_X7_, Q_X8_, Q_X9_, Q_X10_, Q_X11_, Q_X12_, Q_X14_, fun _ => rfl⟩
             refine steps_cons ?_ ?_
             ·rintro b a w' ⟨D1_, k1_, D2_, k2_, D5_, k5_, D3_, k3_, D4_, k4_, E1_, q1_, E2_, q2_, E3_, q3_, m1_, m3_, m5_, m7_, m8_, m9_, m10_, m11_, m12_, m14_, m15_, ha, Q_FB, Q_FA, Q_T1, Q_T2, Q_T5, Q_S3, Q_X4, Q_S4, Q_Y1, Q_Y2, Q_X1_, Q_X3_, Q_X5_, Q_X7_, Q_X8_, Q_X9_, Q_X10_, Q_X11_, Q_X12_, Q_X14_, Q_X15_⟩ hb_ hon hoff
              refine ⟨_, rfl, fun K hK => ?_⟩
              have e209 : a.tmps[209]? = some (.int .i64 0) := by rw [ha]; exact putSel_on (e := (13, 209, .int .i64 0)) 13 rfl rfl (hon 13 (by kernel_rfl)) rfl
              replace ha := Aside0.mk ha
              refine value_ (w1 := w') (v := .int .i64 0) (by rfl) rfl ?_ ?_
              ·go_simp
               (try simp only [i64_w])
               try rfl
              refine hK.out _ _ ⟨D1_, k1_, D2_, k2_, D5_, k5_, D3_, k3_, D4_, k4_, E1_, q1_, E2_, q2_, E3_, q3_, m1_, m3_, m5_, m7_, m8_, m9_, m10_, m11_, m12_, m14_, m15_, (by rw [ha.out]; exact putSel_upk 16 hb_ rfl rfl rfl), Q_FB, fun h0_ => absurd ((hon 7 (by kernel_rfl)).symm.trans h0_) (by decide), Q_T1, Q_T2, Q_T5, fun _ h1_ => absurd ((hon 7 (by kernel_rfl)).symm.trans h1_) (by decide), Q_X4, Q_S4, Q_Y1, Q_Y2, Q_X1_, Q_X3_, Q_X5_, Q_X7_, Q_X8_, Q_X9_, Q_X10_, Q_X11_, Q_X12_, Q_X14_, Q_X15_⟩
             exact steps_nil
            ·rintro b a w' hall ⟨D1_, k1_, D2_, k2_, D5_, k5_, D3_, k3_, D4_, k4_, E1_, q1_, E2_, q2_, E3_, q3_, m1_, m3_, m5_, m7_, m8_, m9_, m10_, m11_, m12_, m14_, m15_, ha, Q_FB, Q_FA, Q_T1, Q_T2, Q_T5, Q_S3, Q_X4, Q_S4, Q_Y1, Q_Y2, Q_X1_, Q_X3_, Q_X5_, Q_X7_, Q_X8_, Q_X9_, Q_X10_, Q_X11_, Q_X12_, Q_X14_, Q_X15_⟩
             clear FA FB
             have hb0_ := hall 0 (by kernel_rfl)
             have hb1_ := hall 1 (by kernel_rfl)
             have hb2_ := hall 2 (by kernel_rfl)
             have hb3_ := hall 3 (by kernel_rfl)
             have hb4_ := hall 4 (by kernel_rfl)
             have hb5_ := hall 5 (by kernel_rfl)
             have hb6_ := hall 6 (by kernel_rfl)
             have hb7_ := hall 7 (by kernel_rfl)
             have hb8_ := hall 8 (by kernel_rfl)
             have hb9_ := hall 9 (by kernel_rfl)
             have hb10_ := hall 10 (by kernel_rfl)
             have hb11_ := hall 11 (by kernel_rfl)
             have hb12_ := hall 12 (by kernel_rfl)
             have hb13_ := hall 13 (by kernel_rfl)
             have hb14_ := hall 14 (by kernel_rfl)
             have hb15_ := hall 15 (by kernel_rfl)
             have hb16_ := hall 16 (by kernel_rfl)
             subst ha
             obtain rfl := Q_X1_ hb1_
             obtain rfl := Q_X3_ hb3_
             obtain rfl := Q_X5_ hb5_
             obtain rfl := Q_X7_ hb7_
             obtain rfl := Q_X8_ hb8_
             obtain rfl := Q_X9_ hb9_
             obtain rfl := Q_X10_ hb10_
             obtain rfl := Q_X11_ hb11_
             obtain rfl := Q_X12_ hb12_
             obtain rfl := Q_X14_ hb14_
             obtain rfl := Q_X15_ hb15_
             simp only [putSel, hb0_, hb1_, hb2_, hb3_, hb4_, hb5_, hb6_, hb7_, hb8_, hb9_, hb10_, hb11_, hb12_, hb13_, hb14_, hb15_, hb16_, if_true, Act.put, List.setIfInBounds_toArray, List.set_cons_zero, List.set_cons_succ]
             have FB := Aside0.mk Q_FB
             clear Q_FB
             clear Q_FA
             have T1 := Aside0.mk (Q_T1 hb1_)
             clear Q_T1
             have T2 := Aside0.mk (Q_T2 hb1_)
             clear Q_T2
             have T5 := Aside0.mk (Q_T5 hb3_)
             clear Q_T5
             clear Q_S3
             have X4 := Aside0.mk (Q_X4 hb7_)
             clear Q_X4
             have S4 := Aside0.mk (Q_S4 hb8_)
             clear Q_S4
             have Y1 := Aside0.mk (Q_Y1 hb9_)
             clear Q_Y1
             have Y2 := Aside0.mk (Q_Y2 hb9_)
             clear Q_Y2
             clear hall hb0_ hb1_ hb2_ hb3_ hb4_ hb5_ hb6_ hb7_ hb8_ hb9_ hb10_ hb11_ hb12_ hb13_ hb14_ hb15_ hb16_
             go_wp2_with fail
             go_meet
             exact ⟨E1_, E2_, q1_, q2_, rfl, rfl, rfl, Y1, Y2, FB⟩
          case rest =>
           obtain ⟨K1, K2, r1, r2, rfl, rfl, rfl, Y1, Y2, FB⟩ := hcut
           rename World => wk
           have hsz := FB.out.size
           obtain ⟨_, _, e1, _, hM29, hF29⟩ := R_row Y1.out
           rw [saysOf_length] at e1
           cases e1
           obtain ⟨_, _, e2, _, hM30, hF30⟩ := R_rowB Y2.out
           rw [usesS_length, hss] at e2
           cases e2
           rw [saysOf_length] at hM29 hF29
           rw [usesS_length, hss] at hM30 hF30
           have M29 := Aside0.mk hM29
           have M30 := Aside0.mk hM30
           have F29 := Aside0.mk hF29
           have F30 : Aside0 (0 < 3 → ∃ g, K2 = some ⟨g, 0, none⟩ ∧ g < wk.heap.size ∧ g ≠ g24) := ⟨fun h => by obtain ⟨g, e, hg⟩ := hF30 h; exact ⟨g, e, by omega⟩⟩
           replace M19 := Aside0.mk (Kd.C_below M19.out FB.out)
           replace M20 := Aside0.mk (Kd.C_below M20.out FB.out)
           replace M27 := Aside0.mk (Kd.C_below M27.out FB.out)
           replace M28 := Aside0.mk (Kd.C_below M28.out FB.out)
           replace F19 : Aside0 (0 < l.length → ∃ g, E1 = some ⟨g, 0, none⟩ ∧ g < wk.heap.size) := ⟨fun h => by obtain ⟨g, e, hg⟩ := F19.out h; exact ⟨g, e, by omega⟩⟩
           replace F20 : Aside0 (0 < 3 → ∃ g, E2 = some ⟨g, 0, none⟩ ∧ g < wk.heap.size ∧ g ≠ g24) := ⟨fun h => by obtain ⟨g, e, hg⟩ := F20.out h; exact ⟨g, e, by omega⟩⟩
           replace F27 : Aside0 (0 < an.length → ∃ g, G1 = some ⟨g, 0, none⟩ ∧ g < wk.heap.size ∧ g ≠ g24) := ⟨fun h => by obtain ⟨g, e, hg⟩ := F27.out h; exact ⟨g, e, by omega⟩⟩
           replace F28 : Aside0 (0 < 3 → ∃ g, G2 = some ⟨g, 0, none⟩ ∧ g < wk.heap.size ∧ g ≠ g24) := ⟨fun h => by obtain ⟨g, e, hg⟩ := F28.out h; exact ⟨g, e, by omega⟩⟩
           replace F23 : Aside0 (0 < an.length → ∃ g, A23 = some ⟨g, 0, none⟩ ∧ g < wk.heap.size ∧ g ≠ g24) := ⟨fun h => by obtain ⟨g, e, hg⟩ := F23.out h; exact ⟨g, e, by omega⟩⟩
           have C23 := Aside0.mk (Kd.C_below (Kd.F_now FA.out) FB.out)
           replace HZ9 := Aside0.mk (Kd.R_below HZ9.out FB.out)
           have HBk := Aside0.mk (below_step HBj.out FB.out)
           have hwl : IntKind.i64.wrap ((l.length : Int) + (an.length : Int)) = (la.length : Int) := by have := HLL.out; rw [IntKind.wrap_i64]; omega
           clear Y1 Y2 FB HBj hM29 hM30 hF29 hF30 hsz FA p0 p1 q0 q1 q2 hg9i hg11i HSL
           go_wp2_with fail
           go_loopw [31] (fun s31 wr => ∃ m : Nat, m ≤ la.length ∧ s31 = .int .i64 m ∧ Aside0 (Below wk.heap.size wk wr)) (fun s31 _ => la.length - (intOf s31).toNat)
           case atStart => exact ⟨0, Nat.zero_le _, rfl, ⟨Below.refl _ _⟩⟩
           case round =>
            obtain ⟨m, hm, rfl, HBm⟩ := hrel
            rename World => wm
            by_cases hlt : m < la.length
            ·have hltz : (m : Int) < (la.length : Int) := by omega
             have hm0 : (0 : Int) ≤ (m : Int) := by omega
             have hll := HLL.out
             have hss2 := saysOf_append chg l an
             obtain ⟨g29, rfl, hg29⟩ := F29.out (by omega)
             have x0 := (HBm.out.cell (p := ⟨g29, m, none⟩) hg29).trans (str_read M29.out m hlt)
             rw [HLA.out, hss2] at x0
             by_cases hml : m < l.length
             ·obtain ⟨g19, rfl, hg19⟩ := F19.out (by omega)
              have x1 := (HBm.out.cell (p := ⟨g19, m, none⟩) hg19).trans (str_read M19.out m hml)
              have he : (saysOf chg l ++ saysOf chg an).getD m ByteArray.empty = (saysOf chg l).getD m ByteArray.empty := by
               rw [getD_at _ _ _ (by rw [List.length_append, saysOf_length, saysOf_length]; omega), getD_at _ _ _ (by rw [saysOf_length]; exact hml), List.getElem_append_left (by rw [saysOf_length]; exact hml)]
              rw [he] at x0
              generalize (saysOf chg l).getD m ByteArray.empty = nm at x0 x1
              have hmz : (m : Int) < (l.length : Int) := by omega
              have hmy : ¬ (l.length : Int) ≤ (m : Int) := by omega
              have hd1 : decide ((m : Int) < (l.length : Int)) = true := decide_eq_true hmz
              have hd2 : decide ((l.length : Int) ≤ (m : Int)) = false := decide_eq_false hmy
              have hd3 : decide (l.length ≤ m) = false := decide_eq_false (by omega)
              have hd4 : decide ((m : Int) ≥ (l.length : Int)) = false := decide_eq_false hmy
              clear hll hss2 he
              go_wp2_with fail
              go_quiet (fail)
              go_wp2
              go_roundw
              case rel => exact ⟨m + 1, by omega, by go_num, ⟨pw_below_drewN HBm.out nq⟩⟩
              case measure => simp [intOf]; omega
             ·obtain ⟨j, hj⟩ : ∃ j, m = l.length + j := ⟨m - l.length, by omega⟩
              have hja : j < an.length := by omega
              obtain ⟨g27, rfl, hg27, _⟩ := F27.out (by omega)
              have x1 := (HBm.out.cell (p := ⟨g27, j, none⟩) hg27).trans (str_read M27.out j hja)
              have he : (saysOf chg l ++ saysOf chg an).getD m ByteArray.empty = (saysOf chg an).getD j ByteArray.empty := by
               subst hj
               rw [getD_at _ _ _ (by rw [List.length_append, saysOf_length, saysOf_length]; omega), getD_at _ _ _ (by rw [saysOf_length]; exact hja), List.getElem_append_right (by rw [saysOf_length]; omega)]
               congr 1
               rw [saysOf_length]
               omega
              rw [he] at x0
              generalize (saysOf chg an).getD j ByteArray.empty = nm at x0 x1
              have hmz : ¬ (m : Int) < (l.length : Int) := by omega
              have hmy : (l.length : Int) ≤ (m : Int) := by omega
              have hd1 : decide ((m : Int) < (l.length : Int)) = false := decide_eq_false hmz
              have hd2 : decide ((l.length : Int) ≤ (m : Int)) = true := decide_eq_true hmy
              have hjw : IntKind.i64.wrap ((m : Int) - (l.length : Int)) = (j : Int) := by rw [IntKind.wrap_i64]; omega
              have hj0 : (0 : Int) ≤ (j : Int) := by omega
              have hjz : (j : Int) < (an.length : Int) := by omega
              clear hll hss2 he hj
              go_wp2_with fail
              go_quiet (fail)
              go_wp2
              go_roundw
              case rel => exact ⟨m + 1, by omega, by go_num, ⟨pw_below_drewN HBm.out nq⟩⟩
              case measure => simp [intOf]; omega
            ·obtain rfl : m = la.length := by omega
             have hltz : ¬ (la.length : Int) < (la.length : Int) := by omega
             replace HZ9 := Aside0.mk (Kd.R_below HZ9.out HBm.out)
             replace M27 := Aside0.mk (Kd.C_below M27.out HBm.out)
             replace M20 := Aside0.mk (Kd.C_below M20.out HBm.out)
             replace M28 := Aside0.mk (Kd.C_below M28.out HBm.out)
             replace M30 := Aside0.mk (Kd.C_below M30.out HBm.out)
             replace C23 := Aside0.mk (Kd.C_below C23.out HBm.out)
             have hsz := HBm.out.size
             replace F20 : Aside0 (0 < 3 → ∃ g, E2 = some ⟨g, 0, none⟩ ∧ g < wm.heap.size ∧ g ≠ g24) := ⟨fun h => by obtain ⟨g, e, hg⟩ := F20.out h; exact ⟨g, e, by omega⟩⟩
             replace F27 : Aside0 (0 < an.length → ∃ g, G1 = some ⟨g, 0, none⟩ ∧ g < wm.heap.size ∧ g ≠ g24) := ⟨fun h => by obtain ⟨g, e, hg⟩ := F27.out h; exact ⟨g, e, by omega⟩⟩
             replace F28 : Aside0 (0 < 3 → ∃ g, G2 = some ⟨g, 0, none⟩ ∧ g < wm.heap.size ∧ g ≠ g24) := ⟨fun h => by obtain ⟨g, e, hg⟩ := F28.out h; exact ⟨g, e, by omega⟩⟩
             replace F23 : Aside0 (0 < an.length → ∃ g, A23 = some ⟨g, 0, none⟩ ∧ g < wm.heap.size ∧ g ≠ g24) := ⟨fun h => by obtain ⟨g, e, hg⟩ := F23.out h; exact ⟨g, e, by omega⟩⟩
             replace F30 : Aside0 (0 < 3 → ∃ g, K2 = some ⟨g, 0, none⟩ ∧ g < wm.heap.size ∧ g ≠ g24) := ⟨fun h => by obtain ⟨g, e, hg⟩ := F30.out h; exact ⟨g, e, by omega⟩⟩
             have HBn := Aside0.mk (below_step HBk.out HBm.out)
             clear HBm M19 M29 F19 F29 hsz HBk hwl hltz
             go_wp2_with fail
             go_loopw [24, 32] (fun s24 s32 wr => ∃ m : Nat, m ≤ an.length ∧ s32 = .int .i64 m ∧ Aside0 (k49.R 49 wr W1.heap.size (fun k => k = g24 ∨ wm.heap.size ≤ k) s24 (rightK chg (an.take m))) ∧ Aside0 (KeptBut wm wr g24) ∧ Aside0 (wm.heap.size ≤ wr.heap.size) ∧ Aside0 (Below W1.heap.size W1 wr)) (fun _ s32 _ => an.length - (intOf s32).toNat)
             case atStart => exact ⟨0, Nat.zero_le _, rfl, ⟨Kd.R_mono (Kd.R_tight rfl HZ9.out) (fun k hk => .inl (by simpa [Value.ownBlock] using hk))⟩, ⟨fun _ _ _ => rfl⟩, ⟨Nat.le_refl _⟩, HBn⟩
             case round =>
              clear HZ9
              obtain ⟨m, hm, rfl, HO, HKB, HSZ, HBz⟩ := hrel
              rename World => wi
              by_cases hlt : m < an.length
              ·have hltz : (m : Int) < (an.length : Int) := by omega
               have hm0 : (0 : Int) ≤ (m : Int) := by omega
               obtain ⟨g23, rfl, hg23, hn23⟩ := F23.out (by omega)
               obtain ⟨g27, rfl, hg27, hn27⟩ := F27.out (by omega)
               obtain ⟨Ax, cx, y0, y1, _, _⟩ := sign_cells C23.out m hlt
               have x0 := (HKB.out.cell (p := ⟨g23, m * 4, none⟩) hg23 hn23).trans y0
               have x1 := (HKB.out.cell (p := ⟨g23, m * 4 + 1, none⟩) hg23 hn23).trans y1
               have x2 := (HKB.out.cell (p := ⟨g27, m, none⟩) hg27 hn27).trans (str_read M27.out m hlt)
               have he : (saysOf chg an).getD m ByteArray.empty = nameAt first3 chg an[m].f0 an[m].f1 := by
                rw [getD_at _ _ _ (by rw [saysOf_length]; exact hlt)]
                simp [saysOf]
               rw [he] at x2
               have HRS := Aside0.mk (rightK_succ chg an m hlt)
               have hrl := rightK_length chg (an.take m)
               rw [List.length_take] at hrl
               clear y0 y1 he
               generalize an[m] = x at x0 x1 x2 HRS
               obtain ⟨st, la_, ft, co⟩ := x
               simp only at x0 x1 x2 HRS
               generalize nameAt first3 chg st la_ = nm at x2 HRS
               have hsz := HSZ.out
               have hwz := HBz.out.size
               go_wp2_with fail
               go_region_law (first
                | (refine Kd.R_append_step k49 (w0 := W1) (W := wi.drew) W1.heap.size (by rfl) (.tmp 290) (.tmp 306) 40 49 (.agg #[.int .i64 0, .int .i64 0, .string ⟨#[]⟩]) 32 rfl Tryz.underlying40 infoOrder rfl (by decide) (by decide) u24 (rightK chg (an.take m)) ⟨st, la_, nm⟩ [.int .i64 st, .int .i64 la_, .string nm] (fun k => k = g24 ∨ wm.heap.size ≤ k) (fun _ => False) rfl rfl (k49_mkM _ _ _ _) (fun _ hk_ => hk_.elim) (fun k hk_ => .inr (Nat.le_trans hsz hk_)) (Kd.R_drew HO.out) (below_drew HBz.out) hwz (by omega) ?_; intro v9 w9 ho hb hg _; have HO9 := Aside0.mk ho; have HB9 := Aside0.mk hb; have HK9 := Aside0.mk (KeptBut.grown (W := wi.drew) HKB.out hsz hg HO.out.1); have HS9 := Aside0.mk (Nat.le_trans hsz hg.size); clear ho hb hg))
               all_goals
                go_wp2
                go_roundw
                case rel => exact ⟨m + 1, by omega, by go_num, ⟨by rw [HRS.out]; exact HO9.out⟩, HK9, HS9, HB9⟩
                case measure => simp [intOf]; omega
              ·obtain rfl : m = an.length := by omega
               have hltz : ¬ (an.length : Int) < (an.length : Int) := by omega
               have hor := HO.out
               rw [List.take_length] at hor
               have HOR := Aside0.mk (rightK_ok HGD.out an HOA.out)
               have hnone := rightK_none chg an (rightK chg an).length
               have hrl := rightK_length chg an
               obtain ⟨A24, c24, e24⟩ := Kd.R_slice hor
               rw [hrl] at e24
               have hc24 := Kd.R_reads hor
               have HLO := Aside0.mk hrl
               have HNO := Aside0.mk hnone
               have hcr : k49.C wi A24 (rightK chg an).length (rightK chg an) := by
                obtain ⟨X, y, e, _, h⟩ := hc24
                rw [e24, hrl] at e
                cases e
                exact h
               have HCR := Aside0.mk hcr
               subst e24
               obtain ⟨g20, rfl, hg20a, hn20⟩ := F20.out (by omega)
               obtain ⟨g28, rfl, hg28a, hn28⟩ := F28.out (by omega)
               obtain ⟨g30, rfl, hg30a, hn30⟩ := F30.out (by omega)
               have hsz := HSZ.out
               have HX : Aside0 (∀ s : Nat, s < 3 → ∃ p q r t : Int, (wi.cell? ⟨g20, s * 2, none⟩ = some (.int .i64 p) ∧ wi.cell? ⟨g20, s * 2 + 1, none⟩ = some (.int .i64 q)) ∧ (wi.cell? ⟨g28, s * 2, none⟩ = some (.int .i64 r) ∧ wi.cell? ⟨g28, s * 2 + 1, none⟩ = some (.int .i64 t)) ∧ (wi.cell? ⟨g30, s * 2, none⟩ = some (.int .i64 (p + r)) ∧ wi.cell? ⟨g30, s * 2 + 1, none⟩ = some (.int .i64 (q + t))) ∧ 0 ≤ p ∧ p ≤ 96000 ∧ 0 ≤ q ∧ q ≤ 96000 ∧ 0 ≤ r ∧ r ≤ 96000 ∧ 0 ≤ t ∧ t ≤ 96000) := ⟨fun s hs3 => by
                have hk : ∀ a : List S47, (∀ x ∈ a, OkSign 3 3 x) → ∀ x ∈ a, OkSign 3 ss.length x := fun a h x hx => by rw [hss]; exact h x hx
                obtain ⟨p, q, r, t, h1, h2, h3, hb⟩ := usesS_sum ss HOW.out.sl l an (hk _ HOK.out) (hk _ HOA.out) hl3 han3 s (by omega)
                obtain ⟨a1, a2⟩ := span_read M20.out s hs3
                obtain ⟨b1, b2⟩ := span_read M28.out s hs3
                obtain ⟨d1, d2⟩ := span_read M30.out s hs3
                rw [HLA.out] at d1 d2
                rw [h1] at a1 a2
                rw [h2] at b1 b2
                rw [h3] at d1 d2
                exact ⟨p, q, r, t, ⟨(HKB.out.cell (p := ⟨g20, s * 2, none⟩) hg20a hn20).trans a1, (HKB.out.cell (p := ⟨g20, s * 2 + 1, none⟩) hg20a hn20).trans a2⟩, ⟨(HKB.out.cell (p := ⟨g28, s * 2, none⟩) hg28a hn28).trans b1, (HKB.out.cell (p := ⟨g28, s * 2 + 1, none⟩) hg28a hn28).trans b2⟩, ⟨(HKB.out.cell (p := ⟨g30, s * 2, none⟩) hg30a hn30).trans d1, (HKB.out.cell (p := ⟨g30, s * 2 + 1, none⟩) hg30a hn30).trans d2⟩, hb⟩⟩
               have hg20 : g20 < wi.heap.size := by omega
               have hg28 : g28 < wi.heap.size := by omega
               have hg30 : g30 < wi.heap.size := by omega
               clear hor hrl hnone hc24 hcr hsz HO HSZ HKB M20 M28 M30 M27 C23 F20 F28 F30 F23 F27 HBn hltz
               go_wp2_with fail
               go_loopw [33] (fun s33 wr => ∃ m : Nat, m ≤ 3 ∧ s33 = .int .i64 m ∧ Aside0 (Below wi.heap.size wi wr)) (fun s33 _ => 3 - (intOf s33).toNat)
               case atStart => exact ⟨0, Nat.zero_le _, rfl, ⟨Below.refl _ _⟩⟩
               case round =>
                obtain ⟨m, hm, rfl, HBm⟩ := hrel
                have HWI := HBm
                rename World => wj
                by_cases hlt : m < 3
                ·have hltz : (m : Int) < 3 := by omega
                 have hm0 : (0 : Int) ≤ (m : Int) := by omega
                 obtain ⟨p, q, r, t, ⟨a1, a2⟩, ⟨b1, b2⟩, ⟨d1, d2⟩, hb⟩ := HX.out m hlt
                 have u0 := (HBm.out.cell (p := ⟨g20, m * 2, none⟩) hg20).trans a1
                 have u1_ := (HBm.out.cell (p := ⟨g20, m * 2 + 1, none⟩) hg20).trans a2
                 have v0 := (HBm.out.cell (p := ⟨g28, m * 2, none⟩) hg28).trans b1
                 have v1_ := (HBm.out.cell (p := ⟨g28, m * 2 + 1, none⟩) hg28).trans b2
                 have s0 := (HBm.out.cell (p := ⟨g30, m * 2, none⟩) hg30).trans d1
                 have s1 := (HBm.out.cell (p := ⟨g30, m * 2 + 1, none⟩) hg30).trans d2
                 have hwp : IntKind.i64.wrap (p + r) = p + r := by rw [IntKind.wrap_i64]; omega
                 have hwq : IntKind.i64.wrap (q + t) = q + t := by rw [IntKind.wrap_i64]; omega
                 clear hb a1 a2 b1 b2 d1 d2
                 have hszj := HBm.out.size
                 go_upto_region 44 with fail
                 go_cut [339] from 312 to 339 (fun s339 wx => s339 = .bool false ∧ Aside0 (Below wj.heap.size wj wx))
                 case first =>
                  clear_value *
                  as_aux_lemma =>
                   replace hg20 : g20 < wj.heap.size := by omega
                   replace hg28 : g28 < wj.heap.size := by omega
                   replace hg30 : g30 < wj.heap.size := by omega
                   refine start_ (n := 28) (S := fun w' => True) (ds := []) #[false, false, false, false, false, false, false, false, false, false, false, false, false, false, false, false, false, false, false, false, false, false, false, false, false, false, false, false] (by kernel_rfl) rfl rfl trivial (fun hHeld => ?_)
                   refine with_tabW fired.tab44 fired.bits44 (fun HT_ HW_ => ?_)
                   have FB := Aside0.mk (below_drew (Below.refl wj.heap.size wj))
                   generalize wj.drew = w8 at FB ⊢
                   refine inv_at [0, 1, 2, 3, 4, 5, 6, 7, 8, 9, 10, 11, 12, 13, 14, 15, 16, 17, 18, 19, 20, 21, 22, 23, 24, 25, 26, 27] (fun a0_ b a w' => a = putSel a0_ b [(0, 312, .slice (some ⟨g30, 0, none⟩) 3 r2), (1, 313, .int .i64 m), (2, 314, .pointer (some ⟨g30, m * 2, none⟩)), (3, 315, .agg #[.int .i64 (p + r), .int .i64 (q + t)]), (4, 316, .slice (some ⟨g20, 0, none⟩) 3 n2), (5, 317, .int .i64 m), (6, 318, .pointer (some ⟨g20, m * 2, none⟩)), (7, 319, .pointer (some ⟨g20, m * 2, none⟩)), (8, 320, .int .i64 p), (9, 321, .slice (some ⟨g28, 0, none⟩) 3 m2), (10, 322, .int .i64 m), (11, 323, .pointer (some ⟨g28, m * 2, none⟩)), (12, 324, .pointer (some ⟨g28, m * 2, none⟩)), (13, 325, .int .i64 r), (14, 326, .int .i64 (p + r)), (15, 327, .slice (some ⟨g20, 0, none⟩) 3 n2), (16, 328, .int .i64 m), (17, 329, .pointer (some ⟨g20, m * 2, none⟩)), (18, 330, .pointer (some ⟨g20, m * 2 + 1, none⟩)), (19, 331, .int .i64 q), (20, 332, .slice (some ⟨g28, 0, none⟩) 3 m2), (21, 333, .int .i64 m), (22, 334, .pointer (some ⟨g28, m * 2, none⟩)), (23, 335, .pointer (some ⟨g28, m * 2 + 1, none⟩)), (24, 336, .int .i64 t), (25, 337, .int .i64 (q + t)), (26, 338, .agg #[.int .i64 (p + r), .int .i64 (q + t)]), (27, 339, .bool false)] ∧ (Below wj.heap.size wj w')) HT_.out HW_.out (by kernel_rfl) (by kernel_rfl) ?_ ?_ ?_
                   ·exact ⟨by simp only [putSel, Bool.false_eq_true, if_false], FB.out⟩
                   ·skip
                    clear FB
                    refine steps_cons ?_ ?_
                    ·rintro b a w' ⟨ha, Q_FB⟩ hb_ hon hoff
                     refine ⟨_, rfl, fun K hK => ?_⟩
                     have e30 : a.tmps[30]? = some (.slice (some ⟨g30, 0, none⟩) 3 r2) := by rw [ha]; exact (putSel_off rfl).trans rfl
                     replace ha := Aside0.mk ha
                     refine value_ (w1 := w') (v := .slice (some ⟨g30, 0, none⟩) 3 r2) (by rfl) rfl ?_ ?_
                     ·go_simp
                      (try simp only [i64_w])
                      try rfl
                     refine hK.out _ _ ⟨(by rw [ha.out]; exact putSel_upk 0 hb_ rfl rfl rfl), Q_FB⟩
                    refine steps_cons ?_ ?_
                    ·rintro b a w' ⟨ha, Q_FB⟩ hb_ hon hoff
                     refine ⟨_, rfl, fun K hK => ?_⟩
                     have e33 : a.tmps[33]? = some (.int .i64 m) := by rw [ha]; exact (putSel_off rfl).trans rfl
                     replace ha := Aside0.mk ha
                     refine value_ (w1 := w') (v := .int .i64 m) (by rfl) rfl ?_ ?_
                     ·go_simp
                      (try simp only [i64_w])
                      try rfl
                     refine hK.out _ _ ⟨(by rw [ha.out]; exact putSel_upk 1 hb_ rfl rfl rfl), Q_FB⟩
                    refine steps_cons ?_ ?_
                    ·rintro b a w' ⟨ha, Q_FB⟩ hb_ hon hoff
                     refine ⟨_, rfl, fun K hK => ?_⟩
                     have e312 : a.tmps[312]? = some (.slice (some ⟨g30, 0, none⟩) 3 r2) := by rw [ha]; exact putSel_on (e := (0, 312, .slice (some ⟨g30, 0, none⟩) 3 r2)) 0 rfl rfl (hon 0 (by kernel_rfl)) rfl
                     have e313 : a.tmps[313]? = some (.int .i64 m) := by rw [ha]; exact putSel_on (e := (1, 313, .int .i64 m)) 1 rfl rfl (hon 1 (by kernel_rfl)) rfl
                     replace ha := Aside0.mk ha
                     refine value_ (w1 := w') (v := .pointer (some ⟨g30, m * 2, none⟩)) (by rfl) rfl ?_ ?_
                     ·go_simp
                      (try simp only [i64_w])
                      try rfl
                     refine hK.out _ _ ⟨(by rw [ha.out]; exact putSel_upk 2 hb_ rfl rfl rfl), Q_FB⟩
                    refine steps_cons ?_ ?_
                    ·rintro b a w' ⟨ha, Q_FB⟩ hb_ hon hoff
                     refine ⟨_, rfl, fun K hK => ?_⟩
                     have e314 : a.tmps[314]? = some (.pointer (some ⟨g30, m * 2, none⟩)) := by rw [ha]; exact putSel_on (e := (2, 314, .pointer (some ⟨g30, m * 2, none⟩))) 2 rfl rfl (hon 2 (by kernel_rfl)) rfl
                     replace ha := Aside0.mk ha
                     have FB := Aside0.mk Q_FB
                     have cs0_ := (FB.out.cell (p := ⟨g30, m * 2, none⟩) hg30).trans s0
                     have cs1_ := (FB.out.cell (p := ⟨g30, m * 2 + 1, none⟩) hg30).trans s1
                     refine value_ (w1 := w') (v := .agg #[.int .i64 (p + r), .int .i64 (q + t)]) (by rfl) rfl ?_ ?_
                     ·go_simp
                      (try simp only [i64_w])
                      try rfl
                     refine hK.out _ _ ⟨(by rw [ha.out]; exact putSel_upk 3 hb_ rfl rfl rfl), Q_FB⟩
                    refine steps_cons ?_ ?_
                    ·rintro b a w' ⟨ha, Q_FB⟩ hb_ hon hoff
                     refine ⟨_, rfl, fun K hK => ?_⟩
                     have e20 : a.tmps[20]? = some (.slice (some ⟨g20, 0, none⟩) 3 n2) := by rw [ha]; exact (putSel_off rfl).trans rfl
                     replace ha := Aside0.mk ha
                     refine value_ (w1 := w') (v := .slice (some ⟨g20, 0, none⟩) 3 n2) (by rfl) rfl ?_ ?_
                     ·go_simp
                      (try simp only [i64_w])
                      try rfl
                     refine hK.out _ _ ⟨(by rw [ha.out]; exact putSel_upk 4 hb_ rfl rfl rfl), Q_FB⟩
                    refine steps_cons ?_ ?_
                    ·rintro b a w' ⟨ha, Q_FB⟩ hb_ hon hoff
                     refine ⟨_, rfl, fun K hK => ?_⟩
                     have e33 : a.tmps[33]? = some (.int .i64 m) := by rw [ha]; exact (putSel_off rfl).trans rfl
                     replace ha := Aside0.mk ha
                     refine value_ (w1 := w') (v := .int .i64 m) (by rfl) rfl ?_ ?_
                     ·go_simp
                      (try simp only [i64_w])
                      try rfl
                     refine hK.out _ _ ⟨(by rw [ha.out]; exact putSel_upk 5 hb_ rfl rfl rfl), Q_FB⟩
                    refine steps_cons ?_ ?_
                    ·rintro b a w' ⟨ha, Q_FB⟩ hb_ hon hoff
                     refine ⟨_, rfl, fun K hK => ?_⟩
                     have e316 : a.tmps[316]? = some (.slice (some ⟨g20, 0, none⟩) 3 n2) := by rw [ha]; exact putSel_on (e := (4, 316, .slice (some ⟨g20, 0, none⟩) 3 n2)) 4 rfl rfl (hon 4 (by kernel_rfl)) rfl
                     have e317 : a.tmps[317]? = some (.int .i64 m) := by rw [ha]; exact putSel_on (e := (5, 317, .int .i64 m)) 5 rfl rfl (hon 5 (by kernel_rfl)) rfl
                     replace ha := Aside0.mk ha
                     refine value_ (w1 := w') (v := .pointer (some ⟨g20, m * 2, none⟩)) (by rfl) rfl ?_ ?_
                     ·go_simp
                      (try simp only [i64_w])
                      try rfl
                     refine hK.out _ _ ⟨(by rw [ha.out]; exact putSel_upk 6 hb_ rfl rfl rfl), Q_FB⟩
                    refine steps_cons ?_ ?_
                    ·rintro b a w' ⟨ha, Q_FB⟩ hb_ hon hoff
                     refine ⟨_, rfl, fun K hK => ?_⟩
                     have e318 : a.tmps[318]? = some (.pointer (some ⟨g20, m * 2, none⟩)) := by rw [ha]; exact putSel_on (e := (6, 318, .pointer (some ⟨g20, m * 2, none⟩))) 6 rfl rfl (hon 6 (by kernel_rfl)) rfl
                     replace ha := Aside0.mk ha
                     refine value_ (w1 := w') (v := .pointer (some ⟨g20, m * 2, none⟩)) (by rfl) rfl ?_ ?_
                     ·go_simp
                      (try simp only [i64_w])
                      try rfl
                     refine hK.out _ _ ⟨(by rw [ha.out]; exact putSel_upk 7 hb_ rfl rfl rfl), Q_FB⟩
                    refine steps_cons ?_ ?_
                    ·rintro b a w' ⟨ha, Q_FB⟩ hb_ hon hoff
                     refine ⟨_, rfl, fun K hK => ?_⟩
                     have e319 : a.tmps[319]? = some (.pointer (some ⟨g20, m * 2, none⟩)) := by rw [ha]; exact putSel_on (e := (7, 319, .pointer (some ⟨g20, m * 2, none⟩))) 7 rfl rfl (hon 7 (by kernel_rfl)) rfl
                     replace ha := Aside0.mk ha
                     have FB := Aside0.mk Q_FB
                     have cu0_ := (FB.out.cell (p := ⟨g20, m * 2, none⟩) hg20).trans u0
                     refine value_ (w1 := w') (v := .int .i64 p) (by rfl) rfl ?_ ?_
                     ·go_simp
                      (try simp only [i64_w])
                      try rfl
                     refine hK.out _ _ ⟨(by rw [ha.out]; exact putSel_upk 8 hb_ rfl rfl rfl), Q_FB⟩
                    refine steps_cons ?_ ?_
                    ·rintro b a w' ⟨ha, Q_FB⟩ hb_ hon hoff
                     refine ⟨_, rfl, fun K hK => ?_⟩
                     have e28 : a.tmps[28]? = some (.slice (some ⟨g28, 0, none⟩) 3 m2) := by rw [ha]; exact (putSel_off rfl).trans rfl
                     replace ha := Aside0.mk ha
                     refine value_ (w1 := w') (v := .slice (some ⟨g28, 0, none⟩) 3 m2) (by rfl) rfl ?_ ?_
                     ·go_simp
                      (try simp only [i64_w])
                      try rfl
                     refine hK.out _ _ ⟨(by rw [ha.out]; exact putSel_upk 9 hb_ rfl rfl rfl), Q_FB⟩
                    refine steps_cons ?_ ?_
                    ·rintro b a w' ⟨ha, Q_FB⟩ hb_ hon hoff
                     refine ⟨_, rfl, fun K hK => ?_⟩
                     have e33 : a.tmps[33]? = some (.int .i64 m) := by rw [ha]; exact (putSel_off rfl).trans rfl
                     replace ha := Aside0.mk ha
                     refine value_ (w1 := w') (v := .int .i64 m) (by rfl) rfl ?_ ?_
                     ·go_simp
                      (try simp only [i64_w])
                      try rfl
                     refine hK.out _ _ ⟨(by rw [ha.out]; exact putSel_upk 10 hb_ rfl rfl rfl), Q_FB⟩
                    refine steps_cons ?_ ?_
                    ·rintro b a w' ⟨ha, Q_FB⟩ hb_ hon hoff
                     refine ⟨_, rfl, fun K hK => ?_⟩
                     have e321 : a.tmps[321]? = some (.slice (some ⟨g28, 0, none⟩) 3 m2) := by rw [ha]; exact putSel_on (e := (9, 321, .slice (some ⟨g28, 0, none⟩) 3 m2)) 9 rfl rfl (hon 9 (by kernel_rfl)) rfl
                     have e322 : a.tmps[322]? = some (.int .i64 m) := by rw [ha]; exact putSel_on (e := (10, 322, .int .i64 m)) 10 rfl rfl (hon 10 (by kernel_rfl)) rfl
                     replace ha := Aside0.mk ha
                     refine value_ (w1 := w') (v := .pointer (some ⟨g28, m * 2, none⟩)) (by rfl) rfl ?_ ?_
                     ·go_simp
                      (try simp only [i64_w])
                      try rfl
                     refine hK.out _ _ ⟨(by rw [ha.out]; exact putSel_upk 11 hb_ rfl rfl rfl), Q_FB⟩
                    refine steps_cons ?_ ?_
                    ·rintro b a w' ⟨ha, Q_FB⟩ hb_ hon hoff
                     refine ⟨_, rfl, fun K hK => ?_⟩
                     have e323 : a.tmps[323]? = some (.pointer (some ⟨g28, m * 2, none⟩)) := by rw [ha]; exact putSel_on (e := (11, 323, .pointer (some ⟨g28, m * 2, none⟩))) 11 rfl rfl (hon 11 (by kernel_rfl)) rfl
                     replace ha := Aside0.mk ha
                     refine value_ (w1 := w') (v := .pointer (some ⟨g28, m * 2, none⟩)) (by rfl) rfl ?_ ?_
                     ·go_simp
                      (try simp only [i64_w])
                      try rfl
                     refine hK.out _ _ ⟨(by rw [ha.out]; exact putSel_upk 12 hb_ rfl rfl rfl), Q_FB⟩
                    refine steps_cons ?_ ?_
                    ·rintro b a w' ⟨ha, Q_FB⟩ hb_ hon hoff
                     refine ⟨_, rfl, fun K hK => ?_⟩
                     have e324 : a.tmps[324]? = some (.pointer (some ⟨g28, m * 2, none⟩)) := by rw [ha]; exact putSel_on (e := (12, 324, .pointer (some ⟨g28, m * 2, none⟩))) 12 rfl rfl (hon 12 (by kernel_rfl)) rfl
                     replace ha := Aside0.mk ha
                     have FB := Aside0.mk Q_FB
                     have cv0_ := (FB.out.cell (p := ⟨g28, m * 2, none⟩) hg28).trans v0
                     refine value_ (w1 := w') (v := .int .i64 r) (by rfl) rfl ?_ ?_
                     ·go_simp
                      (try simp only [i64_w])
                      try rfl
                     refine hK.out _ _ ⟨(by rw [ha.out]; exact putSel_upk 13 hb_ rfl rfl rfl), Q_FB⟩
                    refine steps_cons ?_ ?_
                    ·rintro b a w' ⟨ha, Q_FB⟩ hb_ hon hoff
                     refine ⟨_, rfl, fun K hK => ?_⟩
                     have e320 : a.tmps[320]? = some (.int .i64 p) := by rw [ha]; exact putSel_on (e := (8, 320, .int .i64 p)) 8 rfl rfl (hon 8 (by kernel_rfl)) rfl
                     have e325 : a.tmps[325]? = some (.int .i64 r) := by rw [ha]; exact putSel_on (e := (13, 325, .int .i64 r)) 13 rfl rfl (hon 13 (by kernel_rfl)) rfl
                     replace ha := Aside0.mk ha
                     refine value_ (w1 := w') (v := .int .i64 (p + r)) (by rfl) rfl ?_ ?_
                     ·go_simp
                      (try simp only [i64_w])
                      try rfl
                     refine hK.out _ _ ⟨(by rw [ha.out]; exact putSel_upk 14 hb_ rfl rfl rfl), Q_FB⟩
                    refine steps_cons ?_ ?_
                    ·rintro b a w' ⟨ha, Q_FB⟩ hb_ hon hoff
                     refine ⟨_, rfl, fun K hK => ?_⟩
                     have e20 : a.tmps[20]? = some (.slice (some ⟨g20, 0, none⟩) 3 n2) := by rw [ha]; exact (putSel_off rfl).trans rfl
                     replace ha := Aside0.mk ha
                     refine value_ (w1 := w') (v := .slice (some ⟨g20, 0, none⟩) 3 n2) (by rfl) rfl ?_ ?_
                     ·go_simp
                      (try simp only [i64_w])
                      try rfl
                     refine hK.out _ _ ⟨(by rw [ha.out]; exact putSel_upk 15 hb_ rfl rfl rfl), Q_FB⟩
                    refine steps_cons ?_ ?_
                    ·rintro b a w' ⟨ha, Q_FB⟩ hb_ hon hoff
                     refine ⟨_, rfl, fun K hK => ?_⟩
                     have e33 : a.tmps[33]? = some (.int .i64 m) := by rw [ha]; exact (putSel_off rfl).trans rfl
                     replace ha := Aside0.mk ha
                     refine value_ (w1 := w') (v := .int .i64 m) (by rfl) rfl ?_ ?_
                     ·go_simp
                      (try simp only [i64_w])
                      try rfl
                     refine hK.out _ _ ⟨(by rw [ha.out]; exact putSel_upk 16 hb_ rfl rfl rfl), Q_FB⟩
                    refine steps_cons ?_ ?_
                    ·rintro b a w' ⟨ha, Q_FB⟩ hb_ hon hoff
                     refine ⟨_, rfl, fun K hK => ?_⟩
                     have e327 : a.tmps[327]? = some (.slice (some ⟨g20, 0, none⟩) 3 n2) := by rw [ha]; exact putSel_on (e := (15, 327, .slice (some ⟨g20, 0, none⟩) 3 n2)) 15 rfl rfl (hon 15 (by kernel_rfl)) rfl
                     have e328 : a.tmps[328]? = some (.int .i64 m) := by rw [ha]; exact putSel_on (e := (16, 328, .int .i64 m)) 16 rfl rfl (hon 16 (by kernel_rfl)) rfl
                     replace ha := Aside0.mk ha
                     refine value_ (w1 := w') (v := .pointer (some ⟨g20, m * 2, none⟩)) (by rfl) rfl ?_ ?_
                     ·go_simp
                      (try simp only [i64_w])
                      try rfl
                     refine hK.out _ _ ⟨(by rw [ha.out]; exact putSel_upk 17 hb_ rfl rfl rfl), Q_FB⟩
                    refine steps_cons ?_ ?_
                    ·rintro b a w' ⟨ha, Q_FB⟩ hb_ hon hoff
                     refine ⟨_, rfl, fun K hK => ?_⟩
                     have e329 : a.tmps[329]? = some (.pointer (some ⟨g20, m * 2, none⟩)) := by rw [ha]; exact putSel_on (e := (17, 329, .pointer (some ⟨g20, m * 2, none⟩))) 17 rfl rfl (hon 17 (by kernel_rfl)) rfl
                     replace ha := Aside0.mk ha
                     refine value_ (w1 := w') (v := .pointer (some ⟨g20, m * 2 + 1, none⟩)) (by rfl) rfl ?_ ?_
                     ·go_simp
                      (try simp only [i64_w])
                      try rfl
                     refine hK.out _ _ ⟨(by rw [ha.out]; exact putSel_upk 18 hb_ rfl rfl rfl), Q_FB⟩
                    refine steps_cons ?_ ?_
                    ·rintro b a w' ⟨ha, Q_FB⟩ hb_ hon hoff
                     refine ⟨_, rfl, fun K hK => ?_⟩
                     have e330 : a.tmps[330]? = some (.pointer (some ⟨g20, m * 2 + 1, none⟩)) := by rw [ha]; exact putSel_on (e := (18, 330, .pointer (some ⟨g20, m * 2 + 1, none⟩))) 18 rfl rfl (hon 18 (by kernel_rfl)) rfl
                     replace ha := Aside0.mk ha
                     have FB := Aside0.mk Q_FB
                     have cu1__ := (FB.out.cell (p := ⟨g20, m * 2 + 1, none⟩) hg20).trans u1_
                     refine value_ (w1 := w') (v := .int .i64 q) (by rfl) rfl ?_ ?_
                     ·go_simp
                      (try simp only [i64_w])
                      try rfl
                     refine hK.out _ _ ⟨(by rw [ha.out]; exact putSel_upk 19 hb_ rfl rfl rfl), Q_FB⟩
                    refine steps_cons ?_ ?_
                    ·rintro b a w' ⟨ha, Q_FB⟩ hb_ hon hoff
                     refine ⟨_, rfl, fun K hK => ?_⟩
                     have e28 : a.tmps[28]? = some (.slice (some ⟨g28, 0, none⟩) 3 m2) := by rw [ha]; exact (putSel_off rfl).trans rfl
                     replace ha := Aside0.mk ha
                     refine value_ (w1 := w') (v := .slice (some ⟨g28, 0, none⟩) 3 m2) (by rfl) rfl ?_ ?_
                     ·go_simp
                      (try simp only [i64_w])
                      try rfl
                     refine hK.out _ _ ⟨(by rw [ha.out]; exact putSel_upk 20 hb_ rfl rfl rfl), Q_FB⟩
                    refine steps_cons ?_ ?_
                    ·rintro b a w' ⟨ha, Q_FB⟩ hb_ hon hoff
                     refine ⟨_, rfl, fun K hK => ?_⟩
                     have e33 : a.tmps[33]? = some (.int .i64 m) := by rw [ha]; exact (putSel_off rfl).trans rfl
                     replace ha := Aside0.mk ha
                     refine value_ (w1 := w') (v := .int .i64 m) (by rfl) rfl ?_ ?_
                     ·go_simp
                      (try simp only [i64_w])
                      try rfl
                     refine hK.out _ _ ⟨(by rw [ha.out]; exact putSel_upk 21 hb_ rfl rfl rfl), Q_FB⟩
                    refine steps_cons ?_ ?_
                    ·rintro b a w' ⟨ha, Q_FB⟩ hb_ hon hoff
                     refine ⟨_, rfl, fun K hK => ?_⟩
                     have e332 : a.tmps[332]? = some (.slice (some ⟨g28, 0, none⟩) 3 m2) := by rw [ha]; exact putSel_on (e := (20, 332, .slice (some ⟨g28, 0, none⟩) 3 m2)) 20 rfl rfl (hon 20 (by kernel_rfl)) rfl
                     have e333 : a.tmps[333]? = some (.int .i64 m) := by rw [ha]; exact putSel_on (e := (21, 333, .int .i64 m)) 21 rfl rfl (hon 21 (by kernel_rfl)) rfl
                     replace ha := Aside0.mk ha
                     refine value_ (w1 := w') (v := .pointer (some ⟨g28, m * 2, none⟩)) (by rfl) rfl ?_ ?_
                     ·go_simp
                      (try simp only [i64_w])
                      try rfl
                     refine hK.out _ _ ⟨(by rw [ha.out]; exact putSel_upk 22 hb_ rfl rfl rfl), Q_FB⟩
                    refine steps_cons ?_ ?_
                    ·rintro b a w' ⟨ha, Q_FB⟩ hb_ hon hoff
                     refine ⟨_, rfl, fun K hK => ?_⟩
                     have e334 : a.tmps[334]? = some (.pointer (some ⟨g28, m * 2, none⟩)) := by rw [ha]; exact putSel_on (e := (22, 334, .pointer (some ⟨g28, m * 2, none⟩))) 22 rfl rfl (hon 22 (by kernel_rfl)) rfl
                     replace ha := Aside0.mk ha
                     refine value_ (w1 := w') (v := .pointer (some ⟨g28, m * 2 + 1, none⟩)) (by rfl) rfl ?_ ?_
                     ·go_simp
                      (try simp only [i64_w])
                      try rfl
                     refine hK.out _ _ ⟨(by rw [ha.out]; exact putSel_upk 23 hb_ rfl rfl rfl), Q_FB⟩
                    refine steps_cons ?_ ?_
                    ·rintro b a w' ⟨ha, Q_FB⟩ hb_ hon hoff
                     refine ⟨_, rfl, fun K hK => ?_⟩
                     have e335 : a.tmps[335]? = some (.pointer (some ⟨g28, m * 2 + 1, none⟩)) := by rw [ha]; exact putSel_on (e := (23, 335, .pointer (some ⟨g28, m * 2 + 1, none⟩))) 23 rfl rfl (hon 23 (by kernel_rfl)) rfl
                     replace ha := Aside0.mk ha
                     have FB := Aside0.mk Q_FB
                     have cv1__ := (FB.out.cell (p := ⟨g28, m * 2 + 1, none⟩) hg28).trans v1_
                     refine value_ (w1 := w') (v := .int .i64 t) (by rfl) rfl ?_ ?_
                     ·go_simp
                      (try simp only [i64_w])
                      try rfl
                     refine hK.out _ _ ⟨(by rw [ha.out]; exact putSel_upk 24 hb_ rfl rfl rfl), Q_FB⟩
                    refine steps_cons ?_ ?_
                    ·rintro b a w' ⟨ha, Q_FB⟩ hb_ hon hoff
                     refine ⟨_, rfl, fun K hK => ?_⟩
                     have e331 : a.tmps[331]? = some (.int .i64 q) := by rw [ha]; exact putSel_on (e := (19, 331, .int .i64 q)) 19 rfl rfl (hon 19 (by kernel_rfl)) rfl
                     have e336 : a.tmps[336]? = some (.int .i64 t) := by rw [ha]; exact putSel_on (e := (24, 336, .int .i64 t)) 24 rfl rfl (hon 24 (by kernel_rfl)) rfl
                     replace ha := Aside0.mk ha
                     refine value_ (w1 := w') (v := .int .i64 (q + t)) (by rfl) rfl ?_ ?_
                     ·go_simp
                      (try simp only [i64_w])
                      try rfl
                     refine hK.out _ _ ⟨(by rw [ha.out]; exact putSel_upk 25 hb_ rfl rfl rfl), Q_FB⟩
                    refine steps_cons ?_ ?_
                    ·rintro b a w' ⟨ha, Q_FB⟩ hb_ hon hoff
                     refine ⟨_, rfl, fun K hK => ?_⟩
                     have e326 : a.tmps[326]? = some (.int .i64 (p + r)) := by rw [ha]; exact putSel_on (e := (14, 326, .int .i64 (p + r))) 14 rfl rfl (hon 14 (by kernel_rfl)) rfl
                     have e337 : a.tmps[337]? = some (.int .i64 (q + t)) := by rw [ha]; exact putSel_on (e := (25, 337, .int .i64 (q + t))) 25 rfl rfl (hon 25 (by kernel_rfl)) rfl
                     replace ha := Aside0.mk ha
                     have FB := Aside0.mk Q_FB
                     refine goes_ Tryz.func13 (by kernel_rfl) rfl #[.int .i64 (p + r), .int .i64 (q + t)] (by rfl) rfl rfl (by first | rfl | (simp [Act.eval, e326, e337]; done)) ?_
                     refine (smaltotop_sloeSpan.calls (p + r) (q + t) _ _ w' rfl).mono ?_
                     rintro e w2_ ⟨rfl, hbN⟩
                     refine ⟨_, rfl, ?_⟩
                     refine hK.out _ _ ⟨(by rw [ha.out]; exact putSel_upk 26 hb_ rfl rfl rfl), FB.out.trans (hbN.mono FB.out.size)⟩
                    refine steps_cons ?_ ?_
                    ·rintro b a w' ⟨ha, Q_FB⟩ hb_ hon hoff
                     refine ⟨_, rfl, fun K hK => ?_⟩
                     have e315 : a.tmps[315]? = some (.agg #[.int .i64 (p + r), .int .i64 (q + t)]) := by rw [ha]; exact putSel_on (e := (3, 315, .agg #[.int .i64 (p + r), .int .i64 (q + t)])) 3 rfl rfl (hon 3 (by kernel_rfl)) rfl
                     have e338 : a.tmps[338]? = some (.agg #[.int .i64 (p + r), .int .i64 (q + t)]) := by rw [ha]; exact putSel_on (e := (26, 338, .agg #[.int .i64 (p + r), .int .i64 (q + t)])) 26 rfl rfl (hon 26 (by kernel_rfl)) rfl
                     replace ha := Aside0.mk ha
                     refine value_ (w1 := w') (v := .bool false) (by rfl) rfl ?_ ?_
                     ·go_simp
                      (try simp only [i64_w])
                      try rfl
                     refine hK.out _ _ ⟨(by rw [ha.out]; exact putSel_upk 27 hb_ rfl rfl rfl), Q_FB⟩
                    exact steps_nil
                   ·rintro b a w' hall ⟨ha, Q_FB⟩
                    clear FB
                    have hb0_ := hall 0 (by kernel_rfl)
                    have hb1_ := hall 1 (by kernel_rfl)
                    have hb2_ := hall 2 (by kernel_rfl)
                    have hb3_ := hall 3 (by kernel_rfl)
                    have hb4_ := hall 4 (by kernel_rfl)
                    have hb5_ := hall 5 (by kernel_rfl)
                    have hb6_ := hall 6 (by kernel_rfl)
                    have hb7_ := hall 7 (by kernel_rfl)
                    have hb8_ := hall 8 (by kernel_rfl)
                    have hb9_ := hall 9 (by kernel_rfl)
                    have hb10_ := hall 10 (by kernel_rfl)
                    have hb11_ := hall 11 (by kernel_rfl)
                    have hb12_ := hall 12 (by kernel_rfl)
                    have hb13_ := hall 13 (by kernel_rfl)
                    have hb14_ := hall 14 (by kernel_rfl)
                    have hb15_ := hall 15 (by kernel_rfl)
                    have hb16_ := hall 16 (by kernel_rfl)
                    have hb17_ := hall 17 (by kernel_rfl)
                    have hb18_ := hall 18 (by kernel_rfl)
                    have hb19_ := hall 19 (by kernel_rfl)
                    have hb20_ := hall 20 (by kernel_rfl)
                    have hb21_ := hall 21 (by kernel_rfl)
                    have hb22_ := hall 22 (by kernel_rfl)
                    have hb23_ := hall 23 (by kernel_rfl)
                    have hb24_ := hall 24 (by kernel_rfl)
                    have hb25_ := hall 25 (by kernel_rfl)
                    have hb26_ := hall 26 (by kernel_rfl)
                    have hb27_ := hall 27 (by kernel_rfl)
                    subst ha
                    simp only [putSel, hb0_, hb1_, hb2_, hb3_, hb4_, hb5_, hb6_, hb7_, hb8_, hb9_, hb10_, hb11_, hb12_, hb13_, hb14_, hb15_, hb16_, hb17_, hb18_, hb19_, hb20_, hb21_, hb22_, hb23_, hb24_, hb25_, hb26_, hb27_, if_true, Act.put, List.setIfInBounds_toArray, List.set_cons_zero, List.set_cons_succ]
                    have FB := Aside0.mk Q_FB
                    clear Q_FB
                    clear hall hb0_ hb1_ hb2_ hb3_ hb4_ hb5_ hb6_ hb7_ hb8_ hb9_ hb10_ hb11_ hb12_ hb13_ hb14_ hb15_ hb16_ hb17_ hb18_ hb19_ hb20_ hb21_ hb22_ hb23_ hb24_ hb25_ hb26_ hb27_
                    go_wp2_with fail
                    go_meet
                    exact ⟨rfl, FB⟩
                 case rest =>
                  obtain ⟨rfl, FB⟩ := hcut
                  go_wp2_with fail
                  go_roundw
                  case rel => exact ⟨m + 1, by omega, by go_num, ⟨below_step HBm.out FB.out⟩⟩
                  case measure => simp [intOf]; omega
                ·obtain rfl : m = 3 := by omega
                 have hltz : ¬ ((3 : Nat) : Int) < 3 := by omega
                 have HBw := Aside0.mk (below_step HBz.out HBm.out)
                 have BG9 := blk_below G9.out HBw.out
                 have p0 : wj.cell? ⟨g9, 0, none⟩ = some (.slice B1 3 j1) := (blk_cell BG9 0).trans rfl
                 have p1 : wj.cell? ⟨g9, 1, none⟩ = some (.slice B2 chg.length j2) := (blk_cell BG9 1).trans rfl
                 replace HCR := Aside0.mk (Kd.C_below HCR.out HBm.out)
                 clear BG9 HBm HX
                 go_wp2_with fail
                 refine (HST.out wj HBw.out).mono ?_
                 rintro e w2 ⟨X1, X2, y1, y2, rfl, _, _, hs1, hs2, hb2⟩
                 have HS1 := Aside0.mk hs1
                 have HS2 := Aside0.mk hs2
                 replace HCR := Aside0.mk (Kd.C_below HCR.out hb2)
                 have HB2 := Aside0.mk (below_step HBw.out hb2)
                 clear hs1 hs2 hb2 p0 p1
                 go_wp2_with fail
                 have hmu := HMU.out X1 X2 A24 y1 y2 c24 (rightK chg an) HOR.out (by have := HLO.out; omega) w2 HS1.out HS2.out HCR.out
                 rw [HNO.out] at hmu
                 rw [HLO.out] at hmu
                 refine hmu.mono ?_
                 rintro e w3 ⟨v34, v35, rfl, hv34, hv35, hb3⟩
                 obtain ⟨A35, c35, e35⟩ := Kd.R_slice hv35
                 rw [ints_length] at e35
                 subst e35
                 have HB3 := Aside0.mk (below_step HB2.out hb3)
                 clear hv34 hv35 hb3 hmu HCR
                 go_wp2_with fail
                 refine (irisKnown13_ok w3).mono ?_
                 rintro e w4 ⟨rfl, hb4⟩
                 have HB4 := Aside0.mk (below_step HB1.out (below_step HB3.out hb4))
                 clear hb4
                 go_wp2
                 go_ret
                 exact ⟨rfl, HB4.out⟩
end Go.Proofs.YtfbndhhogpacmaaGreat
