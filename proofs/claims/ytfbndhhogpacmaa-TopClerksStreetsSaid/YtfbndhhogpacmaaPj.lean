import Derived.Test.YtfbndhhogpacmaaPi
/-! irisKnown13: the examples come out. Written by made14.py out of C32.src. -/
namespace Go.Proofs.Ytfbndhhogpacmaa
open Go.RowKit Go.Shelf
open Go.Proofs.YtfbndhhogpacmaaW.PrintWords Go.Proofs.YtfbndhhogpacmaaW.PrintLast Go.Proofs.YtfbndhhogpacmaaW.PrintMore Go.Proofs.Ytfbndhhogpacmaa.T
set_option linter.unusedVariables false
set_option linter.unusedSimpArgs false
theorem C_block {α : Type} (d : Kd α) {w : World} {g e : Nat} {cs : Array Value} (h : w.heap[g]? = some (.cells cs e (0, 0))) {xs : List α} (hr : Reps (d.K w) d.sz xs cs.toList) (hm : xs.length ≤ 1000) : d.C w (some ⟨g, 0, none⟩) xs.length xs := by
  refine ⟨rfl, by omega, fun hp => ⟨_, rfl, fun j p hj => ?_⟩⟩
  have hjl : j < xs.length := by
    rcases Nat.lt_or_ge j xs.length with h | h
    · exact h
    · rw [List.getElem?_eq_none h] at hj; cases hj
  refine ⟨(cs.toList.drop (j * d.sz)).take d.sz, ?_, hr.2 j p hj, fun i u hu => ?_⟩
  · rw [List.length_take, List.length_drop, hr.1]
    have h2 : (j + 1) * d.sz ≤ xs.length * d.sz := Nat.mul_le_mul_right _ hjl
    rw [Nat.add_mul] at h2
    omega
  · rw [add_plain]
    rw [List.getElem?_take] at hu
    split at hu
    · rw [List.getElem?_drop] at hu
      exact (blk_cell h _).trans (by simpa using hu)
    · cases hu
theorem book_block {w : World} {g : Nat} {a b c : Int} {x y z : UInt8} (h : w.heap[g]? = some (.cells #[.int .i64 a, .string (t1 x), .int .i64 b, .string (t1 y), .int .i64 c, .string (t1 z)] 48 (0, 0))) : k48.C w (some ⟨g, 0, none⟩) 3 [⟨a, t1 x⟩, ⟨b, t1 y⟩, ⟨c, t1 z⟩] :=
  C_block k48 h (((Reps.none _ _).snoc (k48_mk w ⟨a, t1 x⟩) rfl).snoc (k48_mk w ⟨b, t1 y⟩) rfl |>.snoc (k48_mk w ⟨c, t1 z⟩) rfl) (by simp)
theorem same_2 (AQ : Option Addr) (cQ : Nat) (hcQ : 1 ≤ cQ) (w0 : World) (hQ : (Kd.int .i64).C w0 AQ 1 [2]) (w : World) (g : Nat) (hb : Below w0.heap.size w0 w) (hg : w.heap[g]? = some (.cells #[.int .i64 2] 3 (0, 0))) :
    Calls Try.prog 11 #[.slice AQ 1 cQ, .slice (some ⟨g, 0, none⟩) 1 1] w fun e w' => e = .returned (.bool true) ∧ Below w.heap.size w w' := by
  refine (smaltotop_sloeSame.calls 3 AQ cQ [2] (some ⟨g, 0, none⟩) 1 [2] true w (Kd.C_below hQ hb) hcQ (C_block (Kd.int .i64) hg ((Reps.none _ _).snoc rfl rfl) (by simp)) (Nat.le_refl _) (by simp [smaltotop_sloeSame.f, smaltotop_sloeSame.l0, rd, wrap64])).mono ?_
  rintro e w' ⟨rfl, hd⟩
  exact ⟨rfl, by obtain ⟨n, rfl⟩ := hd; exact pw_below_drewN (Below.refl _ _) n⟩
def known13.T6 : Bool × List (List Nat × List Nat) := (true, [([], []), ([0], [0]), ([1], [1]), ([2], [2]), ([3, 2], [2, 3]), ([4, 2], [2, 4]), ([2, 5], [2, 5]), ([6, 2], [6]), ([7], [7]), ([8, 7], [7, 8]), ([9, 7], [7, 9]), ([7], [7]), ([10, 11, 7], [7, 10, 11]), ([7, 12], [7, 12]), ([13, 7], [13]), ([14], [14]), ([14], [14]), ([15, 16, 14, 14], [14, 15, 16]), ([14, 17], [14, 17]), ([18, 17], [18]), ([19], [19]), ([20, 19], [19, 20]), ([19, 21], [19, 21]), ([22, 19], [22]), ([23], [23]), ([24, 23], [23, 24]), ([25, 23], [23, 25]), ([23, 26], [23, 26]), ([27, 23], [27]), ([28], [28]), ([29, 28], [28, 29]), ([30, 28], [28, 30]), ([31, 28], [28, 31]), ([28, 32], [28, 32]), ([33, 28], [33]), ([34], [34]), ([35, 34], [34, 35]), ([36, 34], [34, 36]), ([34, 37], [34, 37]), ([38, 34], [38]), ([39], [39]), ([40, 39], [39, 40]), ([41, 39], [39, 41]), ([39, 39], [39]), ([42, 43, 39], [39, 42, 43]), ([39, 44], [39, 44]), ([45, 43, 0, 1, 2, 3, 4, 5, 6, 7, 8, 9, 10, 11, 12, 13, 14, 15, 16, 17, 18, 19, 20, 21, 22, 23, 24, 25, 26, 27, 28, 29, 30, 31, 32, 33, 34, 35, 36, 37, 38, 39, 40, 41, 42, 43, 44, 45], [45])])
def known13.B6 : List Nat := [0, 1, 3, 7, 15, 31, 63, 127, 255, 511, 1023, 255, 4095, 8191, 16383, 32767, 32767, 131071, 262143, 524287, 1048575, 2097151, 4194303, 8388607, 16777215, 33554431, 67108863, 134217727, 268435455, 536870911, 1073741823, 2147483647, 4294967295, 8589934591, 17179869183, 34359738367, 68719476735, 137438953471, 274877906943, 549755813887, 1099511627775, 2199023255551, 4398046511103, 1099511627775, 17592186044415, 35184372088831, 70368744177663]
theorem known13.tab6 : rtab .any (opsOf Try.f7 6) = known13.T6 := by kernel_rfl
theorem known13.bits6 : waitsOk known13.T6.2 known13.B6 = true := by kernel_rfl
set_option maxRecDepth 100000 in
set_option maxHeartbeats 8000000 in
theorem irisKnown13_ok (w : World) : Calls Try.prog 7 #[] w fun e w' => e = .returned (.bool true) ∧ Below w.heap.size w w' := by
  go_enter Try.func7, Try.ntmps7
  go_wp2_with fail
  have B0 := blk_alloc (blk_alloc (blk_new w (.cells #[.int .i64 1, .string ⟨#[97]⟩, .int .i64 2, .string ⟨#[98]⟩, .int .i64 3, .string ⟨#[99]⟩] 48)) (.cells #[.int .i64 1, .string ⟨#[97]⟩, .int .i64 2, .string ⟨#[120]⟩, .int .i64 4, .string ⟨#[100]⟩] 48)) (.cells #[.int .i64 1, .string ⟨#[121]⟩, .int .i64 2, .string ⟨#[122]⟩, .int .i64 3, .string ⟨#[99]⟩] 48)
  have B1 := blk_alloc (blk_new (w.alloc (.cells #[.int .i64 1, .string ⟨#[97]⟩, .int .i64 2, .string ⟨#[98]⟩, .int .i64 3, .string ⟨#[99]⟩] 48)) (.cells #[.int .i64 1, .string ⟨#[97]⟩, .int .i64 2, .string ⟨#[120]⟩, .int .i64 4, .string ⟨#[100]⟩] 48)) (.cells #[.int .i64 1, .string ⟨#[121]⟩, .int .i64 2, .string ⟨#[122]⟩, .int .i64 3, .string ⟨#[99]⟩] 48)
  have B2 := blk_new ((w.alloc (.cells #[.int .i64 1, .string ⟨#[97]⟩, .int .i64 2, .string ⟨#[98]⟩, .int .i64 3, .string ⟨#[99]⟩] 48)).alloc (.cells #[.int .i64 1, .string ⟨#[97]⟩, .int .i64 2, .string ⟨#[120]⟩, .int .i64 4, .string ⟨#[100]⟩] 48)) (.cells #[.int .i64 1, .string ⟨#[121]⟩, .int .i64 2, .string ⟨#[122]⟩, .int .i64 3, .string ⟨#[99]⟩] 48)
  have HB3 := Aside0.mk (below_alloc (below_alloc (below_alloc (Below.refl w.heap.size w) (.cells #[.int .i64 1, .string ⟨#[97]⟩, .int .i64 2, .string ⟨#[98]⟩, .int .i64 3, .string ⟨#[99]⟩] 48)) (.cells #[.int .i64 1, .string ⟨#[97]⟩, .int .i64 2, .string ⟨#[120]⟩, .int .i64 4, .string ⟨#[100]⟩] 48)) (.cells #[.int .i64 1, .string ⟨#[121]⟩, .int .i64 2, .string ⟨#[122]⟩, .int .i64 3, .string ⟨#[99]⟩] 48))
  rw [World.size_alloc] at B1
  rw [World.size_alloc, World.size_alloc] at B2
  generalize ((w.alloc (.cells #[.int .i64 1, .string ⟨#[97]⟩, .int .i64 2, .string ⟨#[98]⟩, .int .i64 3, .string ⟨#[99]⟩] 48)).alloc (.cells #[.int .i64 1, .string ⟨#[97]⟩, .int .i64 2, .string ⟨#[120]⟩, .int .i64 4, .string ⟨#[100]⟩] 48)).alloc (.cells #[.int .i64 1, .string ⟨#[121]⟩, .int .i64 2, .string ⟨#[122]⟩, .int .i64 3, .string ⟨#[99]⟩] 48) = W3 at B0 B1 B2 HB3 ⊢
  refine (Merge_ok _ _ _ 3 3 3 (fun ad h => ⟨_, (Option.some.inj h).symm⟩) (fun ad h => ⟨_, (Option.some.inj h).symm⟩) (fun ad h => ⟨_, (Option.some.inj h).symm⟩) bk0 bk1 bk2 okBk0 okBk1 okBk2 (by rw [mL_bk]; decide) W3 (book_block (a := 1) (x := 97) (b := 2) (y := 98) (c := 3) (z := 99) B0) (book_block (a := 1) (x := 97) (b := 2) (y := 120) (c := 4) (z := 100) B1) (book_block (a := 1) (x := 121) (b := 2) (y := 122) (c := 3) (z := 99) B2)).mono ?_
  rintro e w4 ⟨v1, v2, rfl, hv1, hv2, hb4⟩
  rw [mL_bk] at hv1
  rw [mC_bk] at hv2
  obtain ⟨gl, cl, rfl, _, hgl, _⟩ := Kd.R_form hv1 (by decide)
  obtain ⟨g', eg, l2, l3⟩ := at84 (A := some ⟨gl, 0, none⟩) (fun ad h => ⟨_, (Option.some.inj h).symm⟩) (Kd.R_reads' hv1).2.2 1 (by decide)
  cases eg
  obtain ⟨AQ, cQ, rfl, hcQ, hCQ⟩ := Kd.R_reads hv2
  have L2 : Aside0 (w4.cell? ⟨gl, 2, none⟩ = some (.int .i64 2)) := ⟨l2⟩
  have L3 : Aside0 (w4.cell? ⟨gl, 3, none⟩ = some (.string ⟨#[98]⟩)) := ⟨l3⟩
  have HCQ : Aside0 ((Kd.int .i64).C w4 AQ 1 [2]) := ⟨hCQ⟩
  have HB4 := Aside0.mk (below_step HB3.out hb4)
  replace hcQ : 1 ≤ cQ := hcQ
  rw [show bkL.length = 3 from rfl, show ([2] : List Int).length = 1 from rfl]
  clear B0 B1 B2 HB3 hv1 hv2 hb4 l2 l3 hCQ
  go_wp2_with fail
  have S0 := blk_alloc (blk_alloc (blk_new w4 (.cells #[.string ⟨#[109, 105, 108, 108]⟩, .string ⟨#[99, 104, 117, 114, 99, 104]⟩, .string ⟨#[107, 105, 110, 103]⟩] 9)) (.cells #[.int .i64 100, .int .i64 2, .string ⟨#[113, 117, 101, 101, 110]⟩] 32)) (.cells #[.slice (some ⟨w4.heap.size, 0, none⟩) 3 3, .slice (some ⟨w4.heap.size + 1, 0, none⟩) 1 1] 27)
  have S1 := blk_alloc (blk_new (w4.alloc (.cells #[.string ⟨#[109, 105, 108, 108]⟩, .string ⟨#[99, 104, 117, 114, 99, 104]⟩, .string ⟨#[107, 105, 110, 103]⟩] 9)) (.cells #[.int .i64 100, .int .i64 2, .string ⟨#[113, 117, 101, 101, 110]⟩] 32)) (.cells #[.slice (some ⟨w4.heap.size, 0, none⟩) 3 3, .slice (some ⟨w4.heap.size + 1, 0, none⟩) 1 1] 27)
  have S2 := blk_new ((w4.alloc (.cells #[.string ⟨#[109, 105, 108, 108]⟩, .string ⟨#[99, 104, 117, 114, 99, 104]⟩, .string ⟨#[107, 105, 110, 103]⟩] 9)).alloc (.cells #[.int .i64 100, .int .i64 2, .string ⟨#[113, 117, 101, 101, 110]⟩] 32)) (.cells #[.slice (some ⟨w4.heap.size, 0, none⟩) 3 3, .slice (some ⟨w4.heap.size + 1, 0, none⟩) 1 1] 27)
  have HB5 := below_alloc (below_alloc (below_alloc (Below.refl w4.heap.size w4) (.cells #[.string ⟨#[109, 105, 108, 108]⟩, .string ⟨#[99, 104, 117, 114, 99, 104]⟩, .string ⟨#[107, 105, 110, 103]⟩] 9)) (.cells #[.int .i64 100, .int .i64 2, .string ⟨#[113, 117, 101, 101, 110]⟩] 32)) (.cells #[.slice (some ⟨w4.heap.size, 0, none⟩) 3 3, .slice (some ⟨w4.heap.size + 1, 0, none⟩) 1 1] 27)
  rw [World.size_alloc] at S1
  rw [World.size_alloc, World.size_alloc] at S2
  generalize ((w4.alloc (.cells #[.string ⟨#[109, 105, 108, 108]⟩, .string ⟨#[99, 104, 117, 114, 99, 104]⟩, .string ⟨#[107, 105, 110, 103]⟩] 9)).alloc (.cells #[.int .i64 100, .int .i64 2, .string ⟨#[113, 117, 101, 101, 110]⟩] 32)).alloc (.cells #[.slice (some ⟨w4.heap.size, 0, none⟩) 3 3, .slice (some ⟨w4.heap.size + 1, 0, none⟩) 1 1] 27) = W5 at S0 S1 S2 HB5 ⊢
  have HF5 : Aside0 (Kd.string.C W5 (some ⟨w4.heap.size, 0, none⟩) 3 kFirst) := ⟨C_block Kd.string S0 (xs := kFirst) ((((Reps.none (Kd.string.K W5) 1).snoc (p := kMill) (c := [.string kMill]) rfl rfl).snoc (p := kChurch) (c := [.string kChurch]) rfl rfl).snoc (p := kKing) (c := [.string kKing]) rfl rfl) (by simp [kFirst])⟩
  have HG5 : Aside0 (k32.C W5 (some ⟨w4.heap.size + 1, 0, none⟩) 1 kChg) := ⟨C_block k32 S1 (xs := kChg) ((Reps.none _ _).snoc (k32_mk W5 ⟨100, 2, kQueen⟩) rfl) (by simp [kChg])⟩
  have BT5 := Aside0.mk S2
  have HB45 := Aside0.mk HB5
  clear S0 S1 S2 HB5
  refine (smaltotop_sloeSpan.calls 10 12 10 12 W5 rfl).mono ?_
  rintro e w6 ⟨rfl, hb6⟩
  go_wp2_with fail
  refine (smaltotop_sloeSpan.calls 2 3 2 3 w6 rfl).mono ?_
  rintro e w7 ⟨rfl, hb7⟩
  have HB57 := Aside0.mk (hb6.trans (hb7.mono hb6.size))
  clear hb6 hb7
  have BT7 := Aside0.mk (blk_below BT5.out HB57.out)
  have p0A : ∀ o o', ((w7.alloc o).alloc o').cell? ⟨w4.heap.size + 1 + 1, 0, none⟩ = some (.slice (some ⟨w4.heap.size, 0, none⟩) 3 3) := fun o o' => (blk_cell (blk_alloc (blk_alloc BT7.out o) o') 0).trans rfl
  have p1A : ∀ o o', ((w7.alloc o).alloc o').cell? ⟨w4.heap.size + 1 + 1, 1, none⟩ = some (.slice (some ⟨w4.heap.size + 1, 0, none⟩) 1 1) := fun o o' => (blk_cell (blk_alloc (blk_alloc BT7.out o) o') 1).trans rfl
  go_wp2_with fail
  have U0 := blk_alloc (blk_alloc (blk_alloc (blk_new w7 (.cells #[.int .i64 10, .int .i64 12, .int .i64 2, .int .i64 3, .int .i64 5] 64)) (.cells #[.slice (some ⟨w7.heap.size, 0, none⟩) 1 1, .int .i64 40, .int .i64 60] 67)) (.cells #[.int .i64 0, .int .i64 0] 3)) (.cells #[.int .i64 2, .int .i64 120, .int .i64 10, .slice (some ⟨w7.heap.size + 1 + 1, 0, none⟩) 2 2] 72)
  have U2 := blk_alloc (blk_new ((w7.alloc (.cells #[.int .i64 10, .int .i64 12, .int .i64 2, .int .i64 3, .int .i64 5] 64)).alloc (.cells #[.slice (some ⟨w7.heap.size, 0, none⟩) 1 1, .int .i64 40, .int .i64 60] 67)) (.cells #[.int .i64 0, .int .i64 0] 3)) (.cells #[.int .i64 2, .int .i64 120, .int .i64 10, .slice (some ⟨w7.heap.size + 1 + 1, 0, none⟩) 2 2] 72)
  have U3 := blk_new (((w7.alloc (.cells #[.int .i64 10, .int .i64 12, .int .i64 2, .int .i64 3, .int .i64 5] 64)).alloc (.cells #[.slice (some ⟨w7.heap.size, 0, none⟩) 1 1, .int .i64 40, .int .i64 60] 67)).alloc (.cells #[.int .i64 0, .int .i64 0] 3)) (.cells #[.int .i64 2, .int .i64 120, .int .i64 10, .slice (some ⟨w7.heap.size + 1 + 1, 0, none⟩) 2 2] 72)
  have HB78 := Aside0.mk (below_alloc (below_alloc (below_alloc (below_alloc (Below.refl w7.heap.size w7) (.cells #[.int .i64 10, .int .i64 12, .int .i64 2, .int .i64 3, .int .i64 5] 64)) (.cells #[.slice (some ⟨w7.heap.size, 0, none⟩) 1 1, .int .i64 40, .int .i64 60] 67)) (.cells #[.int .i64 0, .int .i64 0] 3)) (.cells #[.int .i64 2, .int .i64 120, .int .i64 10, .slice (some ⟨w7.heap.size + 1 + 1, 0, none⟩) 2 2] 72))
  rw [World.size_alloc, World.size_alloc] at U2
  rw [World.size_alloc, World.size_alloc, World.size_alloc] at U3
  generalize (((w7.alloc (.cells #[.int .i64 10, .int .i64 12, .int .i64 2, .int .i64 3, .int .i64 5] 64)).alloc (.cells #[.slice (some ⟨w7.heap.size, 0, none⟩) 1 1, .int .i64 40, .int .i64 60] 67)).alloc (.cells #[.int .i64 0, .int .i64 0] 3)).alloc (.cells #[.int .i64 2, .int .i64 120, .int .i64 10, .slice (some ⟨w7.heap.size + 1 + 1, 0, none⟩) 2 2] 72) = W8 at U0 U2 U3 HB78 ⊢
  have HSL := C_block k64 U0 (xs := kSlips) ((Reps.none (k64.K W8) 5).snoc (k64_mk W8 ⟨⟨10, 12⟩, ⟨2, 3⟩, 5⟩) rfl) (by simp [kSlips])
  have HCO := C_block (Kd.int .i64) U2 (xs := [0, 0]) (((Reps.none ((Kd.int .i64).K W8) 1).snoc (p := 0) (c := [.int .i64 0]) rfl rfl).snoc (p := 0) (c := [.int .i64 0]) rfl rfl) (by simp)
  have HSG := C_block k72 U3 (xs := kSigns) ((Reps.none (k72.K W8) 4).snoc (k72_mk W8 ⟨2, 120, 10, [0, 0]⟩ (c3 := 2) (Nat.le_refl _) HCO) rfl) (by simp [kSigns])
  have HB58 := below_step HB57.out HB78.out
  refine (Year_ok (some ⟨w4.heap.size, 0, none⟩) (some ⟨w4.heap.size + 1, 0, none⟩) (some ⟨w7.heap.size, 0, none⟩) (some ⟨w7.heap.size + 1 + 1 + 1, 0, none⟩) 3 1 1 1 kFirst kChg kGood kSlips 40 60 kWorks kSigns kSigns_ok (by simp [kSigns]) W8 (Kd.C_below HF5.out HB58) (Kd.C_below HG5.out HB58) HSL HSG).mono ?_
  rintro e wi ⟨v1, v2, rfl, hv1, hv2, hb9⟩
  rw [kSays] at hv1
  rw [kUses] at hv2
  have HB49 := Aside0.mk (below_step (below_step HB45.out HB58) hb9)
  clear U0 U2 U3 HSL HCO HSG HB58 hb9 HB78 HF5 HG5 BT5 BT7 p0A p1A
  obtain ⟨gs, cs, rfl, _, hgs, _⟩ := Kd.R_form hv1 (by decide)
  obtain ⟨_, c1, e1, _, hK1, hc1⟩ := Kd.C_get (Kd.R_reads' hv1).2.2 ByteArray.empty 0 (by decide) (by decide)
  cases e1
  obtain rfl : c1 = [.string kQueen] := hK1
  have s0 := hc1 0 _ rfl
  rw [add_plain] at s0
  obtain ⟨gu, cu, rfl, _, hgu, _⟩ := Kd.R_form hv2 (by decide)
  obtain ⟨_, c2, e2, _, hK2, hc2⟩ := Kd.C_get (Kd.R_reads' hv2).2.2 ⟨0, 0⟩ 0 (by decide) (by decide)
  cases e2
  obtain rfl : c2 = [.int .i64 40, .int .i64 60] := k61_open hK2
  have q0 := hc2 0 _ rfl
  have q1 := hc2 1 _ rfl
  rw [add_plain] at q0 q1
  have S0 : Aside0 (wi.cell? ⟨gs, 0, none⟩ = some (.string ⟨#[113, 117, 101, 101, 110]⟩)) := ⟨s0⟩
  have Q0 : Aside0 (wi.cell? ⟨gu, 0, none⟩ = some (.int .i64 40)) := ⟨q0⟩
  have Q1 : Aside0 (wi.cell? ⟨gu, 1, none⟩ = some (.int .i64 60)) := ⟨q1⟩
  have L2' := Aside0.mk ((HB49.out.cell (p := ⟨gl, 2, none⟩) hgl).trans L2.out)
  have L3' := Aside0.mk ((HB49.out.cell (p := ⟨gl, 3, none⟩) hgl).trans L3.out)
  have HCQ' := Aside0.mk (Kd.C_below HCQ.out HB49.out)
  have HBw9 := Aside0.mk (below_step HB4.out HB49.out)
  rw [show ([kQueen] : List ByteArray).length = 1 from rfl, show ([⟨40, 60⟩] : List S61).length = 1 from rfl]
  clear hv1 hv2 hc1 hc2 s0 q0 q1 hK2 L2 L3 HCQ HB49 HB4 HB45 HB57
  go_upto_region 6 with fail
  have l2 := L2'.out
  have l3 := L3'.out
  have s0 := S0.out
  have q0 := Q0.out
  have q1 := Q1.out
  have HSS := Lib.hid (fun W g hb hg => same_2 AQ cQ hcQ wi HCQ'.out W g hb hg)
  clear S0 Q0 Q1 L2' L3' HCQ'
  refine start_ (n := 47) (S := fun w' => True) (ds := []) #[false, false, false, false, false, false, false, false, false, false, false, false, false, false, false, false, false, false, false, false, false, false, false, false, false, false, false, false, false, false, false, false, false, false, false, false, false, false, false, false, false, false, false, false, false, false, false] (by kernel_rfl) rfl rfl trivial (fun hHeld => ?_)
  refine with_tabW known13.tab6 known13.bits6 (fun HT_ HW_ => ?_)
  have FB := Aside0.mk (below_drew (Below.refl wi.heap.size wi))
  generalize wi.drew = w8 at FB ⊢
  refine inv_at [0, 1, 2, 3, 4, 5, 6, 7, 8, 9, 10, 11, 12, 13, 14, 15, 16, 17, 18, 19, 20, 21, 22, 23, 24, 25, 26, 27, 28, 29, 30, 31, 32, 33, 34, 35, 36, 37, 38, 39, 40, 41, 42, 43, 44, 45, 46] (fun a0_ b a w' => ∃ (g67_ : Nat) (m16_ : Value), a = putSel a0_ b [(0, 51, .int .i64 0), (1, 52, .bool true), (2, 53, .bool true), (3, 54, .slice (some ⟨gl, 0, none⟩) 3 cl), (4, 55, .int .i64 3), (5, 56, .bool true), (6, 57, .bool true), (7, 58, .bool true), (8, 59, .slice (some ⟨gl, 0, none⟩) 3 cl), (9, 60, .pointer (some ⟨gl, 2, none⟩)), (10, 61, .agg #[.int .i64 2, .string (⟨#[98]⟩ : ByteArray)]), (11, 62, .agg #[.int .i64 2, .string (⟨#[98]⟩ : ByteArray)]), (12, 63, .bool true), (13, 64, .bool true), (14, 65, .bool true), (15, 66, .slice AQ 1 cQ), (16, 67, m16_), (17, 68, .bool true), (18, 69, .bool true), (19, 70, .bool true), (20, 71, .int .i64 0), (21, 72, .bool true), (22, 73, .bool true), (23, 74, .bool true), (24, 75, .slice (some ⟨gs, 0, none⟩) 1 cs), (25, 76, .int .i64 1), (26, 77, .bool true), (27, 78, .bool true), (28, 79, .bool true), (29, 80, .slice (some ⟨gs, 0, none⟩) 1 cs), (30, 81, .pointer (some ⟨gs, 0, none⟩)), (31, 82, .string (⟨#[113, 117, 101, 101, 110]⟩ : ByteArray)), (32, 83, .bool true), (33, 84, .bool true), (34, 85, .bool true), (35, 86, .slice (some ⟨gu, 0, none⟩) 1 cu), (36, 87, .int .i64 1), (37, 88, .bool true), (38, 89, .bool true), (39, 90, .bool true), (40, 91, .slice (some ⟨gu, 0, none⟩) 1 cu), (41, 92, .pointer (some ⟨gu, 0, none⟩)), (42, 93, .agg #[.int .i64 40, .int .i64 60]), (43, 94, .agg #[.int .i64 40, .int .i64 60]), (44, 95, .bool true), (45, 96, .bool true), (46, 0, .bool true)] ∧ (Below wi.heap.size wi w') ∧ (b 16 = true → w'.heap[g67_]? = some (.cells #[.int .i64 2] 3 (0, 0))) ∧ (b 16 = true → (m16_ : Value) = .slice (some ⟨g67_, 0, none⟩) 1 1)) HT_.out HW_.out (by kernel_rfl) (by kernel_rfl) ?_ ?_ ?_
  · exact ⟨0, .bool false, by simp only [putSel, Bool.false_eq_true, if_false], FB.out, fun h_ => absurd h_ (by decide), fun h_ => absurd h_ (by decide)⟩
  · skip
    clear FB
    refine steps_cons ?_ ?_
    · rintro b a w' ⟨g67_, m16_, ha, Q_FB, Q_F67, Q_X16_⟩ hb_ hon hoff
      refine ⟨_, rfl, fun K hK => ?_⟩
      have e6 : a.tmps[6]? = some (.int .i64 0) := by rw [ha]; exact (putSel_off rfl).trans rfl
      replace ha := Aside0.mk ha
      have FB := Aside0.mk Q_FB
      refine value_ (w1 := w') (v := .int .i64 0) (by rfl) rfl ?_ ?_
      · go_simp
        (try simp only [i64_w])
        try rfl
      refine hK.out _ _ ⟨g67_, m16_, (by rw [ha.out]; exact putSel_upk 0 hb_ rfl rfl rfl), Q_FB, fun h0_ => absurd ((hoff 16 (by kernel_rfl)).symm.trans h0_) (by decide), fun h0_ => absurd ((hoff 16 (by kernel_rfl)).symm.trans h0_) (by decide)⟩
    refine steps_cons ?_ ?_
    · rintro b a w' ⟨g67_, m16_, ha, Q_FB, Q_F67, Q_X16_⟩ hb_ hon hoff
      refine ⟨_, rfl, fun K hK => ?_⟩
      have e51 : a.tmps[51]? = some (.int .i64 0) := by rw [ha]; exact putSel_on (e := (0, 51, .int .i64 0)) 0 rfl rfl (hon 0 (by kernel_rfl)) rfl
      replace ha := Aside0.mk ha
      have FB := Aside0.mk Q_FB
      refine value_ (w1 := w') (v := .bool true) (by rfl) rfl ?_ ?_
      · go_simp
        (try simp only [i64_w])
        try rfl
      refine hK.out _ _ ⟨g67_, m16_, (by rw [ha.out]; exact putSel_upk 1 hb_ rfl rfl rfl), Q_FB, fun h0_ => absurd ((hoff 16 (by kernel_rfl)).symm.trans h0_) (by decide), fun h0_ => absurd ((hoff 16 (by kernel_rfl)).symm.trans h0_) (by decide)⟩
    refine steps_cons ?_ ?_
    · rintro b a w' ⟨g67_, m16_, ha, Q_FB, Q_F67, Q_X16_⟩ hb_ hon hoff
      refine ⟨_, rfl, fun K hK => ?_⟩
      have e52 : a.tmps[52]? = some (.bool true) := by rw [ha]; exact putSel_on (e := (1, 52, .bool true)) 1 rfl rfl (hon 1 (by kernel_rfl)) rfl
      replace ha := Aside0.mk ha
      have FB := Aside0.mk Q_FB
      refine value_ (w1 := w') (v := .bool true) (by rfl) rfl ?_ ?_
      · go_simp
        (try simp only [i64_w])
        try rfl
      refine hK.out _ _ ⟨g67_, m16_, (by rw [ha.out]; exact putSel_upk 2 hb_ rfl rfl rfl), Q_FB, fun h0_ => absurd ((hoff 16 (by kernel_rfl)).symm.trans h0_) (by decide), fun h0_ => absurd ((hoff 16 (by kernel_rfl)).symm.trans h0_) (by decide)⟩
    refine steps_cons ?_ ?_
    · rintro b a w' ⟨g67_, m16_, ha, Q_FB, Q_F67, Q_X16_⟩ hb_ hon hoff
      refine ⟨_, rfl, fun K hK => ?_⟩
      have e4 : a.tmps[4]? = some (.slice (some ⟨gl, 0, none⟩) 3 cl) := by rw [ha]; exact (putSel_off rfl).trans rfl
      have e53 : a.tmps[53]? = some (.bool true) := by rw [ha]; exact putSel_on (e := (2, 53, .bool true)) 2 rfl rfl (hon 2 (by kernel_rfl)) rfl
      replace ha := Aside0.mk ha
      have FB := Aside0.mk Q_FB
      refine value_ (w1 := w') (v := .slice (some ⟨gl, 0, none⟩) 3 cl) (wanted_on rfl rfl rfl (e53.trans (by first | rfl | (simp [*]; done)))) rfl ?_ ?_
      · go_simp
        (try simp only [i64_w])
        try rfl
      refine hK.out _ _ ⟨g67_, m16_, (by rw [ha.out]; exact putSel_upk 3 hb_ rfl rfl rfl), Q_FB, fun h0_ => absurd ((hoff 16 (by kernel_rfl)).symm.trans h0_) (by decide), fun h0_ => absurd ((hoff 16 (by kernel_rfl)).symm.trans h0_) (by decide)⟩
    refine steps_cons ?_ ?_
    · rintro b a w' ⟨g67_, m16_, ha, Q_FB, Q_F67, Q_X16_⟩ hb_ hon hoff
      refine ⟨_, rfl, fun K hK => ?_⟩
      have e54 : a.tmps[54]? = some (.slice (some ⟨gl, 0, none⟩) 3 cl) := by rw [ha]; exact putSel_on (e := (3, 54, .slice (some ⟨gl, 0, none⟩) 3 cl)) 3 rfl rfl (hon 3 (by kernel_rfl)) rfl
      have e53 : a.tmps[53]? = some (.bool true) := by rw [ha]; exact putSel_on (e := (2, 53, .bool true)) 2 rfl rfl (hon 2 (by kernel_rfl)) rfl
      replace ha := Aside0.mk ha
      have FB := Aside0.mk Q_FB
      refine value_ (w1 := w') (v := .int .i64 3) (wanted_on rfl rfl rfl (e53.trans (by first | rfl | (simp [*]; done)))) rfl ?_ ?_
      · go_simp
        (try simp only [i64_w])
        try rfl
      refine hK.out _ _ ⟨g67_, m16_, (by rw [ha.out]; exact putSel_upk 4 hb_ rfl rfl rfl), Q_FB, fun h0_ => absurd ((hoff 16 (by kernel_rfl)).symm.trans h0_) (by decide), fun h0_ => absurd ((hoff 16 (by kernel_rfl)).symm.trans h0_) (by decide)⟩
    refine steps_cons ?_ ?_
    · rintro b a w' ⟨g67_, m16_, ha, Q_FB, Q_F67, Q_X16_⟩ hb_ hon hoff
      refine ⟨_, rfl, fun K hK => ?_⟩
      have e55 : a.tmps[55]? = some (.int .i64 3) := by rw [ha]; exact putSel_on (e := (4, 55, .int .i64 3)) 4 rfl rfl (hon 4 (by kernel_rfl)) rfl
      have e53 : a.tmps[53]? = some (.bool true) := by rw [ha]; exact putSel_on (e := (2, 53, .bool true)) 2 rfl rfl (hon 2 (by kernel_rfl)) rfl
      replace ha := Aside0.mk ha
      have FB := Aside0.mk Q_FB
      refine value_ (w1 := w') (v := .bool true) (wanted_on rfl rfl rfl (e53.trans (by first | rfl | (simp [*]; done)))) rfl ?_ ?_
      · go_simp
        (try simp only [i64_w])
        try rfl
      refine hK.out _ _ ⟨g67_, m16_, (by rw [ha.out]; exact putSel_upk 5 hb_ rfl rfl rfl), Q_FB, fun h0_ => absurd ((hoff 16 (by kernel_rfl)).symm.trans h0_) (by decide), fun h0_ => absurd ((hoff 16 (by kernel_rfl)).symm.trans h0_) (by decide)⟩
    refine steps_cons ?_ ?_
    · rintro b a w' ⟨g67_, m16_, ha, Q_FB, Q_F67, Q_X16_⟩ hb_ hon hoff
      refine ⟨_, rfl, fun K hK => ?_⟩
      have e53 : a.tmps[53]? = some (.bool true) := by rw [ha]; exact putSel_on (e := (2, 53, .bool true)) 2 rfl rfl (hon 2 (by kernel_rfl)) rfl
      have e56 : a.tmps[56]? = some (.bool true) := by rw [ha]; exact putSel_on (e := (5, 56, .bool true)) 5 rfl rfl (hon 5 (by kernel_rfl)) rfl
      replace ha := Aside0.mk ha
      have FB := Aside0.mk Q_FB
      refine value_ (w1 := w') (v := .bool true) (by rfl) rfl ?_ ?_
      · go_simp
        (try simp only [i64_w])
        try rfl
      refine hK.out _ _ ⟨g67_, m16_, (by rw [ha.out]; exact putSel_upk 6 hb_ rfl rfl rfl), Q_FB, fun h0_ => absurd ((hoff 16 (by kernel_rfl)).symm.trans h0_) (by decide), fun h0_ => absurd ((hoff 16 (by kernel_rfl)).symm.trans h0_) (by decide)⟩
    refine steps_cons ?_ ?_
    · rintro b a w' ⟨g67_, m16_, ha, Q_FB, Q_F67, Q_X16_⟩ hb_ hon hoff
      refine ⟨_, rfl, fun K hK => ?_⟩
      have e57 : a.tmps[57]? = some (.bool true) := by rw [ha]; exact putSel_on (e := (6, 57, .bool true)) 6 rfl rfl (hon 6 (by kernel_rfl)) rfl
      replace ha := Aside0.mk ha
      have FB := Aside0.mk Q_FB
      refine value_ (w1 := w') (v := .bool true) (by rfl) rfl ?_ ?_
      · go_simp
        (try simp only [i64_w])
        try rfl
      refine hK.out _ _ ⟨g67_, m16_, (by rw [ha.out]; exact putSel_upk 7 hb_ rfl rfl rfl), Q_FB, fun h0_ => absurd ((hoff 16 (by kernel_rfl)).symm.trans h0_) (by decide), fun h0_ => absurd ((hoff 16 (by kernel_rfl)).symm.trans h0_) (by decide)⟩
    refine steps_cons ?_ ?_
    · rintro b a w' ⟨g67_, m16_, ha, Q_FB, Q_F67, Q_X16_⟩ hb_ hon hoff
      refine ⟨_, rfl, fun K hK => ?_⟩
      have e4 : a.tmps[4]? = some (.slice (some ⟨gl, 0, none⟩) 3 cl) := by rw [ha]; exact (putSel_off rfl).trans rfl
      have e58 : a.tmps[58]? = some (.bool true) := by rw [ha]; exact putSel_on (e := (7, 58, .bool true)) 7 rfl rfl (hon 7 (by kernel_rfl)) rfl
      replace ha := Aside0.mk ha
      have FB := Aside0.mk Q_FB
      refine value_ (w1 := w') (v := .slice (some ⟨gl, 0, none⟩) 3 cl) (wanted_on rfl rfl rfl (e58.trans (by first | rfl | (simp [*]; done)))) rfl ?_ ?_
      · go_simp
        (try simp only [i64_w])
        try rfl
      refine hK.out _ _ ⟨g67_, m16_, (by rw [ha.out]; exact putSel_upk 8 hb_ rfl rfl rfl), Q_FB, fun h0_ => absurd ((hoff 16 (by kernel_rfl)).symm.trans h0_) (by decide), fun h0_ => absurd ((hoff 16 (by kernel_rfl)).symm.trans h0_) (by decide)⟩
    refine steps_cons ?_ ?_
    · rintro b a w' ⟨g67_, m16_, ha, Q_FB, Q_F67, Q_X16_⟩ hb_ hon hoff
      refine ⟨_, rfl, fun K hK => ?_⟩
      have e59 : a.tmps[59]? = some (.slice (some ⟨gl, 0, none⟩) 3 cl) := by rw [ha]; exact putSel_on (e := (8, 59, .slice (some ⟨gl, 0, none⟩) 3 cl)) 8 rfl rfl (hon 8 (by kernel_rfl)) rfl
      have e58 : a.tmps[58]? = some (.bool true) := by rw [ha]; exact putSel_on (e := (7, 58, .bool true)) 7 rfl rfl (hon 7 (by kernel_rfl)) rfl
      replace ha := Aside0.mk ha
      have FB := Aside0.mk Q_FB
      refine value_ (w1 := w') (v := .pointer (some ⟨gl, 2, none⟩)) (wanted_on rfl rfl rfl (e58.trans (by first | rfl | (simp [*]; done)))) rfl ?_ ?_
      · go_simp
        (try simp only [i64_w])
        try rfl
      refine hK.out _ _ ⟨g67_, m16_, (by rw [ha.out]; exact putSel_upk 9 hb_ rfl rfl rfl), Q_FB, fun h0_ => absurd ((hoff 16 (by kernel_rfl)).symm.trans h0_) (by decide), fun h0_ => absurd ((hoff 16 (by kernel_rfl)).symm.trans h0_) (by decide)⟩
    refine steps_cons ?_ ?_
    · rintro b a w' ⟨g67_, m16_, ha, Q_FB, Q_F67, Q_X16_⟩ hb_ hon hoff
      refine ⟨_, rfl, fun K hK => ?_⟩
      have e60 : a.tmps[60]? = some (.pointer (some ⟨gl, 2, none⟩)) := by rw [ha]; exact putSel_on (e := (9, 60, .pointer (some ⟨gl, 2, none⟩))) 9 rfl rfl (hon 9 (by kernel_rfl)) rfl
      have e58 : a.tmps[58]? = some (.bool true) := by rw [ha]; exact putSel_on (e := (7, 58, .bool true)) 7 rfl rfl (hon 7 (by kernel_rfl)) rfl
      replace ha := Aside0.mk ha
      have FB := Aside0.mk Q_FB
      have h2_ := (FB.out.cell (p := ⟨gl, 2, none⟩) (World.block_lt_of_cell? _ _ l2)).trans l2
      have h3_ := (FB.out.cell (p := ⟨gl, 3, none⟩) (World.block_lt_of_cell? _ _ l3)).trans l3
      refine value_ (w1 := w') (v := .agg #[.int .i64 2, .string (⟨#[98]⟩ : ByteArray)]) (wanted_on rfl rfl rfl (e58.trans (by first | rfl | (simp [*]; done)))) rfl ?_ ?_
      · go_simp
        (try simp only [i64_w])
        try rfl
      refine hK.out _ _ ⟨g67_, m16_, (by rw [ha.out]; exact putSel_upk 10 hb_ rfl rfl rfl), Q_FB, fun h0_ => absurd ((hoff 16 (by kernel_rfl)).symm.trans h0_) (by decide), fun h0_ => absurd ((hoff 16 (by kernel_rfl)).symm.trans h0_) (by decide)⟩
    refine steps_cons ?_ ?_
    · rintro b a w' ⟨g67_, m16_, ha, Q_FB, Q_F67, Q_X16_⟩ hb_ hon hoff
      refine ⟨_, rfl, fun K hK => ?_⟩
      have e58 : a.tmps[58]? = some (.bool true) := by rw [ha]; exact putSel_on (e := (7, 58, .bool true)) 7 rfl rfl (hon 7 (by kernel_rfl)) rfl
      replace ha := Aside0.mk ha
      have FB := Aside0.mk Q_FB
      refine value_ (w1 := w') (v := .agg #[.int .i64 2, .string (⟨#[98]⟩ : ByteArray)]) (wanted_on rfl rfl rfl (e58.trans (by first | rfl | (simp [*]; done)))) rfl ?_ ?_
      · go_simp
        (try simp only [i64_w])
        try rfl
      refine hK.out _ _ ⟨g67_, m16_, (by rw [ha.out]; exact putSel_upk 11 hb_ rfl rfl rfl), Q_FB, fun h0_ => absurd ((hoff 16 (by kernel_rfl)).symm.trans h0_) (by decide), fun h0_ => absurd ((hoff 16 (by kernel_rfl)).symm.trans h0_) (by decide)⟩
    refine steps_cons ?_ ?_
    · rintro b a w' ⟨g67_, m16_, ha, Q_FB, Q_F67, Q_X16_⟩ hb_ hon hoff
      refine ⟨_, rfl, fun K hK => ?_⟩
      have e61 : a.tmps[61]? = some (.agg #[.int .i64 2, .string (⟨#[98]⟩ : ByteArray)]) := by rw [ha]; exact putSel_on (e := (10, 61, .agg #[.int .i64 2, .string (⟨#[98]⟩ : ByteArray)])) 10 rfl rfl (hon 10 (by kernel_rfl)) rfl
      have e62 : a.tmps[62]? = some (.agg #[.int .i64 2, .string (⟨#[98]⟩ : ByteArray)]) := by rw [ha]; exact putSel_on (e := (11, 62, .agg #[.int .i64 2, .string (⟨#[98]⟩ : ByteArray)])) 11 rfl rfl (hon 11 (by kernel_rfl)) rfl
      have e58 : a.tmps[58]? = some (.bool true) := by rw [ha]; exact putSel_on (e := (7, 58, .bool true)) 7 rfl rfl (hon 7 (by kernel_rfl)) rfl
      replace ha := Aside0.mk ha
      have FB := Aside0.mk Q_FB
      refine value_ (w1 := w') (v := .bool true) (wanted_on rfl rfl rfl (e58.trans (by first | rfl | (simp [*]; done)))) rfl ?_ ?_
      · go_simp
        (try simp only [i64_w])
        try rfl
      refine hK.out _ _ ⟨g67_, m16_, (by rw [ha.out]; exact putSel_upk 12 hb_ rfl rfl rfl), Q_FB, fun h0_ => absurd ((hoff 16 (by kernel_rfl)).symm.trans h0_) (by decide), fun h0_ => absurd ((hoff 16 (by kernel_rfl)).symm.trans h0_) (by decide)⟩
    refine steps_cons ?_ ?_
    · rintro b a w' ⟨g67_, m16_, ha, Q_FB, Q_F67, Q_X16_⟩ hb_ hon hoff
      refine ⟨_, rfl, fun K hK => ?_⟩
      have e58 : a.tmps[58]? = some (.bool true) := by rw [ha]; exact putSel_on (e := (7, 58, .bool true)) 7 rfl rfl (hon 7 (by kernel_rfl)) rfl
      have e63 : a.tmps[63]? = some (.bool true) := by rw [ha]; exact putSel_on (e := (12, 63, .bool true)) 12 rfl rfl (hon 12 (by kernel_rfl)) rfl
      replace ha := Aside0.mk ha
      have FB := Aside0.mk Q_FB
      refine value_ (w1 := w') (v := .bool true) (by rfl) rfl ?_ ?_
      · go_simp
        (try simp only [i64_w])
        try rfl
      refine hK.out _ _ ⟨g67_, m16_, (by rw [ha.out]; exact putSel_upk 13 hb_ rfl rfl rfl), Q_FB, fun h0_ => absurd ((hoff 16 (by kernel_rfl)).symm.trans h0_) (by decide), fun h0_ => absurd ((hoff 16 (by kernel_rfl)).symm.trans h0_) (by decide)⟩
    refine steps_cons ?_ ?_
    · rintro b a w' ⟨g67_, m16_, ha, Q_FB, Q_F67, Q_X16_⟩ hb_ hon hoff
      refine ⟨_, rfl, fun K hK => ?_⟩
      have e64 : a.tmps[64]? = some (.bool true) := by rw [ha]; exact putSel_on (e := (13, 64, .bool true)) 13 rfl rfl (hon 13 (by kernel_rfl)) rfl
      replace ha := Aside0.mk ha
      have FB := Aside0.mk Q_FB
      refine value_ (w1 := w') (v := .bool true) (by rfl) rfl ?_ ?_
      · go_simp
        (try simp only [i64_w])
        try rfl
      refine hK.out _ _ ⟨g67_, m16_, (by rw [ha.out]; exact putSel_upk 14 hb_ rfl rfl rfl), Q_FB, fun h0_ => absurd ((hoff 16 (by kernel_rfl)).symm.trans h0_) (by decide), fun h0_ => absurd ((hoff 16 (by kernel_rfl)).symm.trans h0_) (by decide)⟩
    refine steps_cons ?_ ?_
    · rintro b a w' ⟨g67_, m16_, ha, Q_FB, Q_F67, Q_X16_⟩ hb_ hon hoff
      refine ⟨_, rfl, fun K hK => ?_⟩
      have e5 : a.tmps[5]? = some (.slice AQ 1 cQ) := by rw [ha]; exact (putSel_off rfl).trans rfl
      have e65 : a.tmps[65]? = some (.bool true) := by rw [ha]; exact putSel_on (e := (14, 65, .bool true)) 14 rfl rfl (hon 14 (by kernel_rfl)) rfl
      replace ha := Aside0.mk ha
      have FB := Aside0.mk Q_FB
      refine value_ (w1 := w') (v := .slice AQ 1 cQ) (wanted_on rfl rfl rfl (e65.trans (by first | rfl | (simp [*]; done)))) rfl ?_ ?_
      · go_simp
        (try simp only [i64_w])
        try rfl
      refine hK.out _ _ ⟨g67_, m16_, (by rw [ha.out]; exact putSel_upk 15 hb_ rfl rfl rfl), Q_FB, Q_F67, Q_X16_⟩
    refine steps_cons ?_ ?_
    · rintro b a w' ⟨g67_, m16_, ha, Q_FB, Q_F67, Q_X16_⟩ hb_ hon hoff
      refine ⟨_, rfl, fun K hK => ?_⟩
      have e65 : a.tmps[65]? = some (.bool true) := by rw [ha]; exact putSel_on (e := (14, 65, .bool true)) 14 rfl rfl (hon 14 (by kernel_rfl)) rfl
      replace ha := Aside0.mk ha
      have FB := Aside0.mk Q_FB
      refine value_ (w1 := w'.alloc (.cells #[.int .i64 2] 3)) (v := .slice (some ⟨w'.heap.size, 0, none⟩) 1 1) (wanted_on rfl rfl rfl (e65.trans (by first | rfl | (simp [*]; done)))) rfl ?_ ?_
      · go_simp
        try rfl
      refine hK.out _ _ ⟨w'.heap.size, (.slice (some ⟨w'.heap.size, 0, none⟩) 1 1), (by rw [ha.out]; exact putSel_upk 16 hb_ rfl rfl rfl), below_alloc FB.out _, fun _ => blk_new w' _, fun _ => rfl⟩
    refine steps_cons ?_ ?_
    · rintro b a w' ⟨g67_, m16_, ha, Q_FB, Q_F67, Q_X16_⟩ hb_ hon hoff
      refine ⟨_, rfl, fun K hK => ?_⟩
      have e66 : a.tmps[66]? = some (.slice AQ 1 cQ) := by rw [ha]; exact putSel_on (e := (15, 66, .slice AQ 1 cQ)) 15 rfl rfl (hon 15 (by kernel_rfl)) rfl
      have e67 : a.tmps[67]? = some (m16_) := by rw [ha]; exact putSel_on (e := (16, 67, m16_)) 16 rfl rfl (hon 16 (by kernel_rfl)) rfl
      rw [Q_X16_ (hon 16 (by kernel_rfl))] at e67
      have e65 : a.tmps[65]? = some (.bool true) := by rw [ha]; exact putSel_on (e := (14, 65, .bool true)) 14 rfl rfl (hon 14 (by kernel_rfl)) rfl
      replace ha := Aside0.mk ha
      have FB := Aside0.mk Q_FB
      have F67 := Aside0.mk (Q_F67 (hon 16 (by kernel_rfl)))
      refine goes_ Try.func11 (by kernel_rfl) rfl #[.slice AQ 1 cQ, .slice (some ⟨g67_, 0, none⟩) 1 1] (wanted_on rfl rfl rfl (e65.trans (by first | rfl | (simp [*]; done)))) rfl rfl (by first | rfl | (simp [Act.eval, e66, e67]; done)) ?_
      refine (HSS.out w' g67_ FB.out F67.out).mono ?_
      rintro e w2_ ⟨rfl, hbN⟩
      refine ⟨_, rfl, ?_⟩
      refine hK.out _ _ ⟨g67_, m16_, (by rw [ha.out]; exact putSel_upk 17 hb_ rfl rfl rfl), FB.out.trans (hbN.mono FB.out.size), fun _ => blk_below F67.out hbN, Q_X16_⟩
    refine steps_cons ?_ ?_
    · rintro b a w' ⟨g67_, m16_, ha, Q_FB, Q_F67, Q_X16_⟩ hb_ hon hoff
      refine ⟨_, rfl, fun K hK => ?_⟩
      have e65 : a.tmps[65]? = some (.bool true) := by rw [ha]; exact putSel_on (e := (14, 65, .bool true)) 14 rfl rfl (hon 14 (by kernel_rfl)) rfl
      have e68 : a.tmps[68]? = some (.bool true) := by rw [ha]; exact putSel_on (e := (17, 68, .bool true)) 17 rfl rfl (hon 17 (by kernel_rfl)) rfl
      replace ha := Aside0.mk ha
      have FB := Aside0.mk Q_FB
      have F67 := Aside0.mk (Q_F67 (hon 16 (by kernel_rfl)))
      refine value_ (w1 := w') (v := .bool true) (by rfl) rfl ?_ ?_
      · go_simp
        (try simp only [i64_w])
        try rfl
      refine hK.out _ _ ⟨g67_, m16_, (by rw [ha.out]; exact putSel_upk 18 hb_ rfl rfl rfl), Q_FB, Q_F67, Q_X16_⟩
    refine steps_cons ?_ ?_
    · rintro b a w' ⟨g67_, m16_, ha, Q_FB, Q_F67, Q_X16_⟩ hb_ hon hoff
      refine ⟨_, rfl, fun K hK => ?_⟩
      have e69 : a.tmps[69]? = some (.bool true) := by rw [ha]; exact putSel_on (e := (18, 69, .bool true)) 18 rfl rfl (hon 18 (by kernel_rfl)) rfl
      replace ha := Aside0.mk ha
      have FB := Aside0.mk Q_FB
      have F67 := Aside0.mk (Q_F67 (hon 16 (by kernel_rfl)))
      refine value_ (w1 := w') (v := .bool true) (by rfl) rfl ?_ ?_
      · go_simp
        (try simp only [i64_w])
        try rfl
      refine hK.out _ _ ⟨g67_, m16_, (by rw [ha.out]; exact putSel_upk 19 hb_ rfl rfl rfl), Q_FB, Q_F67, Q_X16_⟩
    refine steps_cons ?_ ?_
    · rintro b a w' ⟨g67_, m16_, ha, Q_FB, Q_F67, Q_X16_⟩ hb_ hon hoff
      refine ⟨_, rfl, fun K hK => ?_⟩
      have e11 : a.tmps[11]? = some (.int .i64 0) := by rw [ha]; exact (putSel_off rfl).trans rfl
      have e70 : a.tmps[70]? = some (.bool true) := by rw [ha]; exact putSel_on (e := (19, 70, .bool true)) 19 rfl rfl (hon 19 (by kernel_rfl)) rfl
      replace ha := Aside0.mk ha
      have FB := Aside0.mk Q_FB
      have F67 := Aside0.mk (Q_F67 (hon 16 (by kernel_rfl)))
      refine value_ (w1 := w') (v := .int .i64 0) (wanted_on rfl rfl rfl (e70.trans (by first | rfl | (simp [*]; done)))) rfl ?_ ?_
      · go_simp
        (try simp only [i64_w])
        try rfl
      refine hK.out _ _ ⟨g67_, m16_, (by rw [ha.out]; exact putSel_upk 20 hb_ rfl rfl rfl), Q_FB, Q_F67, Q_X16_⟩
    refine steps_cons ?_ ?_
    · rintro b a w' ⟨g67_, m16_, ha, Q_FB, Q_F67, Q_X16_⟩ hb_ hon hoff
      refine ⟨_, rfl, fun K hK => ?_⟩
      have e71 : a.tmps[71]? = some (.int .i64 0) := by rw [ha]; exact putSel_on (e := (20, 71, .int .i64 0)) 20 rfl rfl (hon 20 (by kernel_rfl)) rfl
      have e70 : a.tmps[70]? = some (.bool true) := by rw [ha]; exact putSel_on (e := (19, 70, .bool true)) 19 rfl rfl (hon 19 (by kernel_rfl)) rfl
      replace ha := Aside0.mk ha
      have FB := Aside0.mk Q_FB
      have F67 := Aside0.mk (Q_F67 (hon 16 (by kernel_rfl)))
      refine value_ (w1 := w') (v := .bool true) (wanted_on rfl rfl rfl (e70.trans (by first | rfl | (simp [*]; done)))) rfl ?_ ?_
      · go_simp
        (try simp only [i64_w])
        try rfl
      refine hK.out _ _ ⟨g67_, m16_, (by rw [ha.out]; exact putSel_upk 21 hb_ rfl rfl rfl), Q_FB, Q_F67, Q_X16_⟩
    refine steps_cons ?_ ?_
    · rintro b a w' ⟨g67_, m16_, ha, Q_FB, Q_F67, Q_X16_⟩ hb_ hon hoff
      refine ⟨_, rfl, fun K hK => ?_⟩
      have e70 : a.tmps[70]? = some (.bool true) := by rw [ha]; exact putSel_on (e := (19, 70, .bool true)) 19 rfl rfl (hon 19 (by kernel_rfl)) rfl
      have e72 : a.tmps[72]? = some (.bool true) := by rw [ha]; exact putSel_on (e := (21, 72, .bool true)) 21 rfl rfl (hon 21 (by kernel_rfl)) rfl
      replace ha := Aside0.mk ha
      have FB := Aside0.mk Q_FB
      have F67 := Aside0.mk (Q_F67 (hon 16 (by kernel_rfl)))
      refine value_ (w1 := w') (v := .bool true) (by rfl) rfl ?_ ?_
      · go_simp
        (try simp only [i64_w])
        try rfl
      refine hK.out _ _ ⟨g67_, m16_, (by rw [ha.out]; exact putSel_upk 22 hb_ rfl rfl rfl), Q_FB, Q_F67, Q_X16_⟩
    refine steps_cons ?_ ?_
    · rintro b a w' ⟨g67_, m16_, ha, Q_FB, Q_F67, Q_X16_⟩ hb_ hon hoff
      refine ⟨_, rfl, fun K hK => ?_⟩
      have e73 : a.tmps[73]? = some (.bool true) := by rw [ha]; exact putSel_on (e := (22, 73, .bool true)) 22 rfl rfl (hon 22 (by kernel_rfl)) rfl
      replace ha := Aside0.mk ha
      have FB := Aside0.mk Q_FB
      have F67 := Aside0.mk (Q_F67 (hon 16 (by kernel_rfl)))
      refine value_ (w1 := w') (v := .bool true) (by rfl) rfl ?_ ?_
      · go_simp
        (try simp only [i64_w])
        try rfl
      refine hK.out _ _ ⟨g67_, m16_, (by rw [ha.out]; exact putSel_upk 23 hb_ rfl rfl rfl), Q_FB, Q_F67, Q_X16_⟩
    refine steps_cons ?_ ?_
    · rintro b a w' ⟨g67_, m16_, ha, Q_FB, Q_F67, Q_X16_⟩ hb_ hon hoff
      refine ⟨_, rfl, fun K hK => ?_⟩
      have e9 : a.tmps[9]? = some (.slice (some ⟨gs, 0, none⟩) 1 cs) := by rw [ha]; exact (putSel_off rfl).trans rfl
      have e74 : a.tmps[74]? = some (.bool true) := by rw [ha]; exact putSel_on (e := (23, 74, .bool true)) 23 rfl rfl (hon 23 (by kernel_rfl)) rfl
      replace ha := Aside0.mk ha
      have FB := Aside0.mk Q_FB
      have F67 := Aside0.mk (Q_F67 (hon 16 (by kernel_rfl)))
      refine value_ (w1 := w') (v := .slice (some ⟨gs, 0, none⟩) 1 cs) (wanted_on rfl rfl rfl (e74.trans (by first | rfl | (simp [*]; done)))) rfl ?_ ?_
      · go_simp
        (try simp only [i64_w])
        try rfl
      refine hK.out _ _ ⟨g67_, m16_, (by rw [ha.out]; exact putSel_upk 24 hb_ rfl rfl rfl), Q_FB, Q_F67, Q_X16_⟩
    refine steps_cons ?_ ?_
    · rintro b a w' ⟨g67_, m16_, ha, Q_FB, Q_F67, Q_X16_⟩ hb_ hon hoff
      refine ⟨_, rfl, fun K hK => ?_⟩
      have e75 : a.tmps[75]? = some (.slice (some ⟨gs, 0, none⟩) 1 cs) := by rw [ha]; exact putSel_on (e := (24, 75, .slice (some ⟨gs, 0, none⟩) 1 cs)) 24 rfl rfl (hon 24 (by kernel_rfl)) rfl
      have e74 : a.tmps[74]? = some (.bool true) := by rw [ha]; exact putSel_on (e := (23, 74, .bool true)) 23 rfl rfl (hon 23 (by kernel_rfl)) rfl
      replace ha := Aside0.mk ha
      have FB := Aside0.mk Q_FB
      have F67 := Aside0.mk (Q_F67 (hon 16 (by kernel_rfl)))
      refine value_ (w1 := w') (v := .int .i64 1) (wanted_on rfl rfl rfl (e74.trans (by first | rfl | (simp [*]; done)))) rfl ?_ ?_
      · go_simp
        (try simp only [i64_w])
        try rfl
      refine hK.out _ _ ⟨g67_, m16_, (by rw [ha.out]; exact putSel_upk 25 hb_ rfl rfl rfl), Q_FB, Q_F67, Q_X16_⟩
    refine steps_cons ?_ ?_
    · rintro b a w' ⟨g67_, m16_, ha, Q_FB, Q_F67, Q_X16_⟩ hb_ hon hoff
      refine ⟨_, rfl, fun K hK => ?_⟩
      have e76 : a.tmps[76]? = some (.int .i64 1) := by rw [ha]; exact putSel_on (e := (25, 76, .int .i64 1)) 25 rfl rfl (hon 25 (by kernel_rfl)) rfl
      have e74 : a.tmps[74]? = some (.bool true) := by rw [ha]; exact putSel_on (e := (23, 74, .bool true)) 23 rfl rfl (hon 23 (by kernel_rfl)) rfl
      replace ha := Aside0.mk ha
      have FB := Aside0.mk Q_FB
      have F67 := Aside0.mk (Q_F67 (hon 16 (by kernel_rfl)))
      refine value_ (w1 := w') (v := .bool true) (wanted_on rfl rfl rfl (e74.trans (by first | rfl | (simp [*]; done)))) rfl ?_ ?_
      · go_simp
        (try simp only [i64_w])
        try rfl
      refine hK.out _ _ ⟨g67_, m16_, (by rw [ha.out]; exact putSel_upk 26 hb_ rfl rfl rfl), Q_FB, Q_F67, Q_X16_⟩
    refine steps_cons ?_ ?_
    · rintro b a w' ⟨g67_, m16_, ha, Q_FB, Q_F67, Q_X16_⟩ hb_ hon hoff
      refine ⟨_, rfl, fun K hK => ?_⟩
      have e74 : a.tmps[74]? = some (.bool true) := by rw [ha]; exact putSel_on (e := (23, 74, .bool true)) 23 rfl rfl (hon 23 (by kernel_rfl)) rfl
      have e77 : a.tmps[77]? = some (.bool true) := by rw [ha]; exact putSel_on (e := (26, 77, .bool true)) 26 rfl rfl (hon 26 (by kernel_rfl)) rfl
      replace ha := Aside0.mk ha
      have FB := Aside0.mk Q_FB
      have F67 := Aside0.mk (Q_F67 (hon 16 (by kernel_rfl)))
      refine value_ (w1 := w') (v := .bool true) (by rfl) rfl ?_ ?_
      · go_simp
        (try simp only [i64_w])
        try rfl
      refine hK.out _ _ ⟨g67_, m16_, (by rw [ha.out]; exact putSel_upk 27 hb_ rfl rfl rfl), Q_FB, Q_F67, Q_X16_⟩
    refine steps_cons ?_ ?_
    · rintro b a w' ⟨g67_, m16_, ha, Q_FB, Q_F67, Q_X16_⟩ hb_ hon hoff
      refine ⟨_, rfl, fun K hK => ?_⟩
      have e78 : a.tmps[78]? = some (.bool true) := by rw [ha]; exact putSel_on (e := (27, 78, .bool true)) 27 rfl rfl (hon 27 (by kernel_rfl)) rfl
      replace ha := Aside0.mk ha
      have FB := Aside0.mk Q_FB
      have F67 := Aside0.mk (Q_F67 (hon 16 (by kernel_rfl)))
      refine value_ (w1 := w') (v := .bool true) (by rfl) rfl ?_ ?_
      · go_simp
        (try simp only [i64_w])
        try rfl
      refine hK.out _ _ ⟨g67_, m16_, (by rw [ha.out]; exact putSel_upk 28 hb_ rfl rfl rfl), Q_FB, Q_F67, Q_X16_⟩
    refine steps_cons ?_ ?_
    · rintro b a w' ⟨g67_, m16_, ha, Q_FB, Q_F67, Q_X16_⟩ hb_ hon hoff
      refine ⟨_, rfl, fun K hK => ?_⟩
      have e9 : a.tmps[9]? = some (.slice (some ⟨gs, 0, none⟩) 1 cs) := by rw [ha]; exact (putSel_off rfl).trans rfl
      have e79 : a.tmps[79]? = some (.bool true) := by rw [ha]; exact putSel_on (e := (28, 79, .bool true)) 28 rfl rfl (hon 28 (by kernel_rfl)) rfl
      replace ha := Aside0.mk ha
      have FB := Aside0.mk Q_FB
      have F67 := Aside0.mk (Q_F67 (hon 16 (by kernel_rfl)))
      refine value_ (w1 := w') (v := .slice (some ⟨gs, 0, none⟩) 1 cs) (wanted_on rfl rfl rfl (e79.trans (by first | rfl | (simp [*]; done)))) rfl ?_ ?_
      · go_simp
        (try simp only [i64_w])
        try rfl
      refine hK.out _ _ ⟨g67_, m16_, (by rw [ha.out]; exact putSel_upk 29 hb_ rfl rfl rfl), Q_FB, Q_F67, Q_X16_⟩
    refine steps_cons ?_ ?_
    · rintro b a w' ⟨g67_, m16_, ha, Q_FB, Q_F67, Q_X16_⟩ hb_ hon hoff
      refine ⟨_, rfl, fun K hK => ?_⟩
      have e80 : a.tmps[80]? = some (.slice (some ⟨gs, 0, none⟩) 1 cs) := by rw [ha]; exact putSel_on (e := (29, 80, .slice (some ⟨gs, 0, none⟩) 1 cs)) 29 rfl rfl (hon 29 (by kernel_rfl)) rfl
      have e79 : a.tmps[79]? = some (.bool true) := by rw [ha]; exact putSel_on (e := (28, 79, .bool true)) 28 rfl rfl (hon 28 (by kernel_rfl)) rfl
      replace ha := Aside0.mk ha
      have FB := Aside0.mk Q_FB
      have F67 := Aside0.mk (Q_F67 (hon 16 (by kernel_rfl)))
      refine value_ (w1 := w') (v := .pointer (some ⟨gs, 0, none⟩)) (wanted_on rfl rfl rfl (e79.trans (by first | rfl | (simp [*]; done)))) rfl ?_ ?_
      · go_simp
        (try simp only [i64_w])
        try rfl
      refine hK.out _ _ ⟨g67_, m16_, (by rw [ha.out]; exact putSel_upk 30 hb_ rfl rfl rfl), Q_FB, Q_F67, Q_X16_⟩
    refine steps_cons ?_ ?_
    · rintro b a w' ⟨g67_, m16_, ha, Q_FB, Q_F67, Q_X16_⟩ hb_ hon hoff
      refine ⟨_, rfl, fun K hK => ?_⟩
      have e81 : a.tmps[81]? = some (.pointer (some ⟨gs, 0, none⟩)) := by rw [ha]; exact putSel_on (e := (30, 81, .pointer (some ⟨gs, 0, none⟩))) 30 rfl rfl (hon 30 (by kernel_rfl)) rfl
      have e79 : a.tmps[79]? = some (.bool true) := by rw [ha]; exact putSel_on (e := (28, 79, .bool true)) 28 rfl rfl (hon 28 (by kernel_rfl)) rfl
      replace ha := Aside0.mk ha
      have FB := Aside0.mk Q_FB
      have F67 := Aside0.mk (Q_F67 (hon 16 (by kernel_rfl)))
      have h0_ := (FB.out.cell (p := ⟨gs, 0, none⟩) (World.block_lt_of_cell? _ _ s0)).trans s0
      refine value_ (w1 := w') (v := .string (⟨#[113, 117, 101, 101, 110]⟩ : ByteArray)) (wanted_on rfl rfl rfl (e79.trans (by first | rfl | (simp [*]; done)))) rfl ?_ ?_
      · go_simp
        (try simp only [i64_w])
        try rfl
      refine hK.out _ _ ⟨g67_, m16_, (by rw [ha.out]; exact putSel_upk 31 hb_ rfl rfl rfl), Q_FB, Q_F67, Q_X16_⟩
    refine steps_cons ?_ ?_
    · rintro b a w' ⟨g67_, m16_, ha, Q_FB, Q_F67, Q_X16_⟩ hb_ hon hoff
      refine ⟨_, rfl, fun K hK => ?_⟩
      have e82 : a.tmps[82]? = some (.string (⟨#[113, 117, 101, 101, 110]⟩ : ByteArray)) := by rw [ha]; exact putSel_on (e := (31, 82, .string (⟨#[113, 117, 101, 101, 110]⟩ : ByteArray))) 31 rfl rfl (hon 31 (by kernel_rfl)) rfl
      have e79 : a.tmps[79]? = some (.bool true) := by rw [ha]; exact putSel_on (e := (28, 79, .bool true)) 28 rfl rfl (hon 28 (by kernel_rfl)) rfl
      replace ha := Aside0.mk ha
      have FB := Aside0.mk Q_FB
      have F67 := Aside0.mk (Q_F67 (hon 16 (by kernel_rfl)))
      refine value_ (w1 := w') (v := .bool true) (wanted_on rfl rfl rfl (e79.trans (by first | rfl | (simp [*]; done)))) rfl ?_ ?_
      · go_simp
        (try simp only [i64_w])
        try rfl
      refine hK.out _ _ ⟨g67_, m16_, (by rw [ha.out]; exact putSel_upk 32 hb_ rfl rfl rfl), Q_FB, Q_F67, Q_X16_⟩
    refine steps_cons ?_ ?_
    · rintro b a w' ⟨g67_, m16_, ha, Q_FB, Q_F67, Q_X16_⟩ hb_ hon hoff
      refine ⟨_, rfl, fun K hK => ?_⟩
      have e79 : a.tmps[79]? = some (.bool true) := by rw [ha]; exact putSel_on (e := (28, 79, .bool true)) 28 rfl rfl (hon 28 (by kernel_rfl)) rfl
      have e83 : a.tmps[83]? = some (.bool true) := by rw [ha]; exact putSel_on (e := (32, 83, .bool true)) 32 rfl rfl (hon 32 (by kernel_rfl)) rfl
      replace ha := Aside0.mk ha
      have FB := Aside0.mk Q_FB
      have F67 := Aside0.mk (Q_F67 (hon 16 (by kernel_rfl)))
      refine value_ (w1 := w') (v := .bool true) (by rfl) rfl ?_ ?_
      · go_simp
        (try simp only [i64_w])
        try rfl
      refine hK.out _ _ ⟨g67_, m16_, (by rw [ha.out]; exact putSel_upk 33 hb_ rfl rfl rfl), Q_FB, Q_F67, Q_X16_⟩
    refine steps_cons ?_ ?_
    · rintro b a w' ⟨g67_, m16_, ha, Q_FB, Q_F67, Q_X16_⟩ hb_ hon hoff
      refine ⟨_, rfl, fun K hK => ?_⟩
      have e84 : a.tmps[84]? = some (.bool true) := by rw [ha]; exact putSel_on (e := (33, 84, .bool true)) 33 rfl rfl (hon 33 (by kernel_rfl)) rfl
      replace ha := Aside0.mk ha
      have FB := Aside0.mk Q_FB
      have F67 := Aside0.mk (Q_F67 (hon 16 (by kernel_rfl)))
      refine value_ (w1 := w') (v := .bool true) (by rfl) rfl ?_ ?_
      · go_simp
        (try simp only [i64_w])
        try rfl
      refine hK.out _ _ ⟨g67_, m16_, (by rw [ha.out]; exact putSel_upk 34 hb_ rfl rfl rfl), Q_FB, Q_F67, Q_X16_⟩
    refine steps_cons ?_ ?_
    · rintro b a w' ⟨g67_, m16_, ha, Q_FB, Q_F67, Q_X16_⟩ hb_ hon hoff
      refine ⟨_, rfl, fun K hK => ?_⟩
      have e10 : a.tmps[10]? = some (.slice (some ⟨gu, 0, none⟩) 1 cu) := by rw [ha]; exact (putSel_off rfl).trans rfl
      have e85 : a.tmps[85]? = some (.bool true) := by rw [ha]; exact putSel_on (e := (34, 85, .bool true)) 34 rfl rfl (hon 34 (by kernel_rfl)) rfl
      replace ha := Aside0.mk ha
      have FB := Aside0.mk Q_FB
      have F67 := Aside0.mk (Q_F67 (hon 16 (by kernel_rfl)))
      refine value_ (w1 := w') (v := .slice (some ⟨gu, 0, none⟩) 1 cu) (wanted_on rfl rfl rfl (e85.trans (by first | rfl | (simp [*]; done)))) rfl ?_ ?_
      · go_simp
        (try simp only [i64_w])
        try rfl
      refine hK.out _ _ ⟨g67_, m16_, (by rw [ha.out]; exact putSel_upk 35 hb_ rfl rfl rfl), Q_FB, Q_F67, Q_X16_⟩
    refine steps_cons ?_ ?_
    · rintro b a w' ⟨g67_, m16_, ha, Q_FB, Q_F67, Q_X16_⟩ hb_ hon hoff
      refine ⟨_, rfl, fun K hK => ?_⟩
      have e86 : a.tmps[86]? = some (.slice (some ⟨gu, 0, none⟩) 1 cu) := by rw [ha]; exact putSel_on (e := (35, 86, .slice (some ⟨gu, 0, none⟩) 1 cu)) 35 rfl rfl (hon 35 (by kernel_rfl)) rfl
      have e85 : a.tmps[85]? = some (.bool true) := by rw [ha]; exact putSel_on (e := (34, 85, .bool true)) 34 rfl rfl (hon 34 (by kernel_rfl)) rfl
      replace ha := Aside0.mk ha
      have FB := Aside0.mk Q_FB
      have F67 := Aside0.mk (Q_F67 (hon 16 (by kernel_rfl)))
      refine value_ (w1 := w') (v := .int .i64 1) (wanted_on rfl rfl rfl (e85.trans (by first | rfl | (simp [*]; done)))) rfl ?_ ?_
      · go_simp
        (try simp only [i64_w])
        try rfl
      refine hK.out _ _ ⟨g67_, m16_, (by rw [ha.out]; exact putSel_upk 36 hb_ rfl rfl rfl), Q_FB, Q_F67, Q_X16_⟩
    refine steps_cons ?_ ?_
    · rintro b a w' ⟨g67_, m16_, ha, Q_FB, Q_F67, Q_X16_⟩ hb_ hon hoff
      refine ⟨_, rfl, fun K hK => ?_⟩
      have e87 : a.tmps[87]? = some (.int .i64 1) := by rw [ha]; exact putSel_on (e := (36, 87, .int .i64 1)) 36 rfl rfl (hon 36 (by kernel_rfl)) rfl
      have e85 : a.tmps[85]? = some (.bool true) := by rw [ha]; exact putSel_on (e := (34, 85, .bool true)) 34 rfl rfl (hon 34 (by kernel_rfl)) rfl
      replace ha := Aside0.mk ha
      have FB := Aside0.mk Q_FB
      have F67 := Aside0.mk (Q_F67 (hon 16 (by kernel_rfl)))
      refine value_ (w1 := w') (v := .bool true) (wanted_on rfl rfl rfl (e85.trans (by first | rfl | (simp [*]; done)))) rfl ?_ ?_
      · go_simp
        (try simp only [i64_w])
        try rfl
      refine hK.out _ _ ⟨g67_, m16_, (by rw [ha.out]; exact putSel_upk 37 hb_ rfl rfl rfl), Q_FB, Q_F67, Q_X16_⟩
    refine steps_cons ?_ ?_
    · rintro b a w' ⟨g67_, m16_, ha, Q_FB, Q_F67, Q_X16_⟩ hb_ hon hoff
      refine ⟨_, rfl, fun K hK => ?_⟩
      have e85 : a.tmps[85]? = some (.bool true) := by rw [ha]; exact putSel_on (e := (34, 85, .bool true)) 34 rfl rfl (hon 34 (by kernel_rfl)) rfl
      have e88 : a.tmps[88]? = some (.bool true) := by rw [ha]; exact putSel_on (e := (37, 88, .bool true)) 37 rfl rfl (hon 37 (by kernel_rfl)) rfl
      replace ha := Aside0.mk ha
      have FB := Aside0.mk Q_FB
      have F67 := Aside0.mk (Q_F67 (hon 16 (by kernel_rfl)))
      refine value_ (w1 := w') (v := .bool true) (by rfl) rfl ?_ ?_
      · go_simp
        (try simp only [i64_w])
        try rfl
      refine hK.out _ _ ⟨g67_, m16_, (by rw [ha.out]; exact putSel_upk 38 hb_ rfl rfl rfl), Q_FB, Q_F67, Q_X16_⟩
    refine steps_cons ?_ ?_
    · rintro b a w' ⟨g67_, m16_, ha, Q_FB, Q_F67, Q_X16_⟩ hb_ hon hoff
      refine ⟨_, rfl, fun K hK => ?_⟩
      have e89 : a.tmps[89]? = some (.bool true) := by rw [ha]; exact putSel_on (e := (38, 89, .bool true)) 38 rfl rfl (hon 38 (by kernel_rfl)) rfl
      replace ha := Aside0.mk ha
      have FB := Aside0.mk Q_FB
      have F67 := Aside0.mk (Q_F67 (hon 16 (by kernel_rfl)))
      refine value_ (w1 := w') (v := .bool true) (by rfl) rfl ?_ ?_
      · go_simp
        (try simp only [i64_w])
        try rfl
      refine hK.out _ _ ⟨g67_, m16_, (by rw [ha.out]; exact putSel_upk 39 hb_ rfl rfl rfl), Q_FB, Q_F67, Q_X16_⟩
    refine steps_cons ?_ ?_
    · rintro b a w' ⟨g67_, m16_, ha, Q_FB, Q_F67, Q_X16_⟩ hb_ hon hoff
      refine ⟨_, rfl, fun K hK => ?_⟩
      have e10 : a.tmps[10]? = some (.slice (some ⟨gu, 0, none⟩) 1 cu) := by rw [ha]; exact (putSel_off rfl).trans rfl
      have e90 : a.tmps[90]? = some (.bool true) := by rw [ha]; exact putSel_on (e := (39, 90, .bool true)) 39 rfl rfl (hon 39 (by kernel_rfl)) rfl
      replace ha := Aside0.mk ha
      have FB := Aside0.mk Q_FB
      have F67 := Aside0.mk (Q_F67 (hon 16 (by kernel_rfl)))
      refine value_ (w1 := w') (v := .slice (some ⟨gu, 0, none⟩) 1 cu) (wanted_on rfl rfl rfl (e90.trans (by first | rfl | (simp [*]; done)))) rfl ?_ ?_
      · go_simp
        (try simp only [i64_w])
        try rfl
      refine hK.out _ _ ⟨g67_, m16_, (by rw [ha.out]; exact putSel_upk 40 hb_ rfl rfl rfl), Q_FB, Q_F67, Q_X16_⟩
    refine steps_cons ?_ ?_
    · rintro b a w' ⟨g67_, m16_, ha, Q_FB, Q_F67, Q_X16_⟩ hb_ hon hoff
      refine ⟨_, rfl, fun K hK => ?_⟩
      have e91 : a.tmps[91]? = some (.slice (some ⟨gu, 0, none⟩) 1 cu) := by rw [ha]; exact putSel_on (e := (40, 91, .slice (some ⟨gu, 0, none⟩) 1 cu)) 40 rfl rfl (hon 40 (by kernel_rfl)) rfl
      have e90 : a.tmps[90]? = some (.bool true) := by rw [ha]; exact putSel_on (e := (39, 90, .bool true)) 39 rfl rfl (hon 39 (by kernel_rfl)) rfl
      replace ha := Aside0.mk ha
      have FB := Aside0.mk Q_FB
      have F67 := Aside0.mk (Q_F67 (hon 16 (by kernel_rfl)))
      refine value_ (w1 := w') (v := .pointer (some ⟨gu, 0, none⟩)) (wanted_on rfl rfl rfl (e90.trans (by first | rfl | (simp [*]; done)))) rfl ?_ ?_
      · go_simp
        (try simp only [i64_w])
        try rfl
      refine hK.out _ _ ⟨g67_, m16_, (by rw [ha.out]; exact putSel_upk 41 hb_ rfl rfl rfl), Q_FB, Q_F67, Q_X16_⟩
    refine steps_cons ?_ ?_
    · rintro b a w' ⟨g67_, m16_, ha, Q_FB, Q_F67, Q_X16_⟩ hb_ hon hoff
      refine ⟨_, rfl, fun K hK => ?_⟩
      have e92 : a.tmps[92]? = some (.pointer (some ⟨gu, 0, none⟩)) := by rw [ha]; exact putSel_on (e := (41, 92, .pointer (some ⟨gu, 0, none⟩))) 41 rfl rfl (hon 41 (by kernel_rfl)) rfl
      have e90 : a.tmps[90]? = some (.bool true) := by rw [ha]; exact putSel_on (e := (39, 90, .bool true)) 39 rfl rfl (hon 39 (by kernel_rfl)) rfl
      replace ha := Aside0.mk ha
      have FB := Aside0.mk Q_FB
      have F67 := Aside0.mk (Q_F67 (hon 16 (by kernel_rfl)))
      have h0_ := (FB.out.cell (p := ⟨gu, 0, none⟩) (World.block_lt_of_cell? _ _ q0)).trans q0
      have h1_ := (FB.out.cell (p := ⟨gu, 1, none⟩) (World.block_lt_of_cell? _ _ q1)).trans q1
      refine value_ (w1 := w') (v := .agg #[.int .i64 40, .int .i64 60]) (wanted_on rfl rfl rfl (e90.trans (by first | rfl | (simp [*]; done)))) rfl ?_ ?_
      · go_simp
        (try simp only [i64_w])
        try rfl
      refine hK.out _ _ ⟨g67_, m16_, (by rw [ha.out]; exact putSel_upk 42 hb_ rfl rfl rfl), Q_FB, Q_F67, Q_X16_⟩
    refine steps_cons ?_ ?_
    · rintro b a w' ⟨g67_, m16_, ha, Q_FB, Q_F67, Q_X16_⟩ hb_ hon hoff
      refine ⟨_, rfl, fun K hK => ?_⟩
      have e90 : a.tmps[90]? = some (.bool true) := by rw [ha]; exact putSel_on (e := (39, 90, .bool true)) 39 rfl rfl (hon 39 (by kernel_rfl)) rfl
      replace ha := Aside0.mk ha
      have FB := Aside0.mk Q_FB
      have F67 := Aside0.mk (Q_F67 (hon 16 (by kernel_rfl)))
      refine goes_ Try.func16 (by kernel_rfl) rfl #[.int .i64 40, .int .i64 60] (wanted_on rfl rfl rfl (e90.trans (by first | rfl | (simp [*]; done)))) rfl rfl (by first | rfl | (simp [Act.eval]; done)) ?_
      refine (smaltotop_sloeSpan.calls 40 60 40 60 w' rfl).mono ?_
      rintro e w2_ ⟨rfl, hbN⟩
      refine ⟨_, rfl, ?_⟩
      refine hK.out _ _ ⟨g67_, m16_, (by rw [ha.out]; exact putSel_upk 43 hb_ rfl rfl rfl), FB.out.trans (hbN.mono FB.out.size), fun _ => blk_below F67.out hbN, Q_X16_⟩
    refine steps_cons ?_ ?_
    · rintro b a w' ⟨g67_, m16_, ha, Q_FB, Q_F67, Q_X16_⟩ hb_ hon hoff
      refine ⟨_, rfl, fun K hK => ?_⟩
      have e93 : a.tmps[93]? = some (.agg #[.int .i64 40, .int .i64 60]) := by rw [ha]; exact putSel_on (e := (42, 93, .agg #[.int .i64 40, .int .i64 60])) 42 rfl rfl (hon 42 (by kernel_rfl)) rfl
      have e94 : a.tmps[94]? = some (.agg #[.int .i64 40, .int .i64 60]) := by rw [ha]; exact putSel_on (e := (43, 94, .agg #[.int .i64 40, .int .i64 60])) 43 rfl rfl (hon 43 (by kernel_rfl)) rfl
      have e90 : a.tmps[90]? = some (.bool true) := by rw [ha]; exact putSel_on (e := (39, 90, .bool true)) 39 rfl rfl (hon 39 (by kernel_rfl)) rfl
      replace ha := Aside0.mk ha
      have FB := Aside0.mk Q_FB
      have F67 := Aside0.mk (Q_F67 (hon 16 (by kernel_rfl)))
      refine value_ (w1 := w') (v := .bool true) (wanted_on rfl rfl rfl (e90.trans (by first | rfl | (simp [*]; done)))) rfl ?_ ?_
      · go_simp
        (try simp only [i64_w])
        try rfl
      refine hK.out _ _ ⟨g67_, m16_, (by rw [ha.out]; exact putSel_upk 44 hb_ rfl rfl rfl), Q_FB, Q_F67, Q_X16_⟩
    refine steps_cons ?_ ?_
    · rintro b a w' ⟨g67_, m16_, ha, Q_FB, Q_F67, Q_X16_⟩ hb_ hon hoff
      refine ⟨_, rfl, fun K hK => ?_⟩
      have e90 : a.tmps[90]? = some (.bool true) := by rw [ha]; exact putSel_on (e := (39, 90, .bool true)) 39 rfl rfl (hon 39 (by kernel_rfl)) rfl
      have e95 : a.tmps[95]? = some (.bool true) := by rw [ha]; exact putSel_on (e := (44, 95, .bool true)) 44 rfl rfl (hon 44 (by kernel_rfl)) rfl
      replace ha := Aside0.mk ha
      have FB := Aside0.mk Q_FB
      have F67 := Aside0.mk (Q_F67 (hon 16 (by kernel_rfl)))
      refine value_ (w1 := w') (v := .bool true) (by rfl) rfl ?_ ?_
      · go_simp
        (try simp only [i64_w])
        try rfl
      refine hK.out _ _ ⟨g67_, m16_, (by rw [ha.out]; exact putSel_upk 45 hb_ rfl rfl rfl), Q_FB, Q_F67, Q_X16_⟩
    refine steps_cons ?_ ?_
    · rintro b a w' ⟨g67_, m16_, ha, Q_FB, Q_F67, Q_X16_⟩ hb_ hon hoff
      refine ⟨_, rfl, fun K hK => ?_⟩
      have e96 : a.tmps[96]? = some (.bool true) := by rw [ha]; exact putSel_on (e := (45, 96, .bool true)) 45 rfl rfl (hon 45 (by kernel_rfl)) rfl
      replace ha := Aside0.mk ha
      have FB := Aside0.mk Q_FB
      have F67 := Aside0.mk (Q_F67 (hon 16 (by kernel_rfl)))
      refine value_ (w1 := w') (v := .bool true) (by rfl) rfl ?_ ?_
      · go_simp
        (try simp only [i64_w])
        try rfl
      refine hK.out _ _ ⟨g67_, m16_, (by rw [ha.out]; exact putSel_upk 46 hb_ rfl rfl rfl), Q_FB, Q_F67, Q_X16_⟩
    exact steps_nil
  · rintro b a w' hall ⟨g67_, m16_, ha, Q_FB, Q_F67, Q_X16_⟩
    clear FB
    have hb0_ := hall 0 (by kernel_rfl)
    have hb1_ := hall 1 (by kernel_rfl)
    have hb2_ := hall 2 (by kernel_rfl)
    have hb3_ := hall 3 (by kernel_rfl)
    have hb4_ := hall 4 (by kernel_rfl)
    have hb5_ := hall 5 (by kernel_rfl)
    have hb6_ := hall 6 (by kernel_rfl)
    have hb7_ := hall 7 (by kernel_rfl)
    have hb8_ := hall 8 (by kernel_rfl)
    have hb9_ := hall 9 (by kernel_rfl)
    have hb10_ := hall 10 (by kernel_rfl)
    have hb11_ := hall 11 (by kernel_rfl)
    have hb12_ := hall 12 (by kernel_rfl)
    have hb13_ := hall 13 (by kernel_rfl)
    have hb14_ := hall 14 (by kernel_rfl)
    have hb15_ := hall 15 (by kernel_rfl)
    have hb16_ := hall 16 (by kernel_rfl)
    have hb17_ := hall 17 (by kernel_rfl)
    have hb18_ := hall 18 (by kernel_rfl)
    have hb19_ := hall 19 (by kernel_rfl)
    have hb20_ := hall 20 (by kernel_rfl)
    have hb21_ := hall 21 (by kernel_rfl)
    have hb22_ := hall 22 (by kernel_rfl)
    have hb23_ := hall 23 (by kernel_rfl)
    have hb24_ := hall 24 (by kernel_rfl)
    have hb25_ := hall 25 (by kernel_rfl)
    have hb26_ := hall 26 (by kernel_rfl)
    have hb27_ := hall 27 (by kernel_rfl)
    have hb28_ := hall 28 (by kernel_rfl)
    have hb29_ := hall 29 (by kernel_rfl)
    have hb30_ := hall 30 (by kernel_rfl)
    have hb31_ := hall 31 (by kernel_rfl)
    have hb32_ := hall 32 (by kernel_rfl)
    have hb33_ := hall 33 (by kernel_rfl)
    have hb34_ := hall 34 (by kernel_rfl)
    have hb35_ := hall 35 (by kernel_rfl)
    have hb36_ := hall 36 (by kernel_rfl)
    have hb37_ := hall 37 (by kernel_rfl)
    have hb38_ := hall 38 (by kernel_rfl)
    have hb39_ := hall 39 (by kernel_rfl)
    have hb40_ := hall 40 (by kernel_rfl)
    have hb41_ := hall 41 (by kernel_rfl)
    have hb42_ := hall 42 (by kernel_rfl)
    have hb43_ := hall 43 (by kernel_rfl)
    have hb44_ := hall 44 (by kernel_rfl)
    have hb45_ := hall 45 (by kernel_rfl)
    have hb46_ := hall 46 (by kernel_rfl)
    subst ha
    obtain rfl := Q_X16_ hb16_
    simp only [putSel, hb0_, hb1_, hb2_, hb3_, hb4_, hb5_, hb6_, hb7_, hb8_, hb9_, hb10_, hb11_, hb12_, hb13_, hb14_, hb15_, hb16_, hb17_, hb18_, hb19_, hb20_, hb21_, hb22_, hb23_, hb24_, hb25_, hb26_, hb27_, hb28_, hb29_, hb30_, hb31_, hb32_, hb33_, hb34_, hb35_, hb36_, hb37_, hb38_, hb39_, hb40_, hb41_, hb42_, hb43_, hb44_, hb45_, hb46_, if_true, Act.put, List.setIfInBounds_toArray, List.set_cons_zero, List.set_cons_succ]
    have FB := Aside0.mk Q_FB
    clear Q_FB
    have F67 := Aside0.mk (Q_F67 hb16_)
    clear Q_F67
    clear hall hb0_ hb1_ hb2_ hb3_ hb4_ hb5_ hb6_ hb7_ hb8_ hb9_ hb10_ hb11_ hb12_ hb13_ hb14_ hb15_ hb16_ hb17_ hb18_ hb19_ hb20_ hb21_ hb22_ hb23_ hb24_ hb25_ hb26_ hb27_ hb28_ hb29_ hb30_ hb31_ hb32_ hb33_ hb34_ hb35_ hb36_ hb37_ hb38_ hb39_ hb40_ hb41_ hb42_ hb43_ hb44_ hb45_ hb46_
    go_wp2_with fail
    go_ret
    exact ⟨rfl, below_step HBw9.out FB.out⟩
end Go.Proofs.Ytfbndhhogpacmaa
