import Derived.Test.YtfbndhhogpacmaaPg
/-! file.isLine at a line that is valid. -/
namespace Go.Proofs.Ytfbndhhogpacmaa
open Go.RowKit Go.Shelf
open Go.Proofs.YtfbndhhogpacmaaW.PrintWords Go.Proofs.Ytfbndhhogpacmaa.T
set_option linter.unusedVariables false
set_option linter.unusedSimpArgs false
/-- A text that may be written: bytes from 32 to 126. -/
def IsTx (s : ByteArray) : Prop := ∀ (i : Nat) (h : i < s.size), 32 ≤ (s[i]'h).toNat ∧ (s[i]'h).toNat ≤ 126
theorem isLine1_no (r : Int) (h1 : 32 ≤ r) (h2 : r ≤ 126) (w : World) :
    Calls Try.prog 59 #[.int .i32 r] w fun e w' => e = .returned (.bool false) ∧ w' = w := by
  have h1b : ¬ r < 32 := by omega
  have h2b : ¬ 126 < r := by omega
  go_enter Try.func59, Try.ntmps59
  go_wp2
  go_ret
  exact ⟨rfl, rfl⟩
set_option maxHeartbeats 2000000 in
theorem indexFunc_tx (s : ByteArray) (hs : IsTx s) (w : World) :
    Calls Try.prog 92 #[.string s, .func (.func 59) #[] #[], .bool true] w fun e w' => e = .returned (.int .i64 (-1)) ∧ Below w.heap.size w w' := by
  have HL := Aside0.mk hs
  clear hs
  go_enter Try.func92, Try.ntmps92
  go_wp2
  go_loopw [] (fun w' => ∃ pos : Nat, w' = w.iter s pos ∧ pos ≤ s.size) (fun w' => s.size - w'.iterPos w.heap.size)
  case atStart => exact ⟨0, rfl, by omega⟩
  case round =>
    obtain ⟨pos, rfl, hpos⟩ := hrel
    by_cases hp : pos < s.size
    · obtain ⟨hc1, hc2⟩ := HL.out pos hp
      have hnx : ∀ ty, (Instr.next (.pointer (some ⟨w.heap.size, 0, none⟩)) true ty).run Try.prog (w.iter s pos) = _ := fun ty => run_next_ascii w s pos ty hp (by omega)
      have HC := Lib.hid (isLine1_no (((s[pos]'hp).toNat : Nat) : Int) (by omega) (by omega))
      go_wp2_with (go_at_call 59; refine (HC.out _).mono ?_; rintro e w' ⟨rfl, rfl⟩)
      go_roundw
      case rel => exact ⟨pos + 1, rfl, by omega⟩
      case measure => simp; omega
    · have hnx : ∀ ty, (Instr.next (.pointer (some ⟨w.heap.size, 0, none⟩)) true ty).run Try.prog (w.iter s pos) = _ := fun ty => run_next_end w s pos ty hp
      have hB : Below w.heap.size w (w.iter s pos) := (Below.refl _ _).alloc (Nat.le_refl _) _
      go_wp2
      go_ret
      exact ⟨rfl, hB⟩
theorem strIndexFunc_tx (s : ByteArray) (hs : IsTx s) (w : World) :
    Calls Try.prog 81 #[.string s, .func (.func 59) #[] #[]] w fun e w' => e = .returned (.int .i64 (-1)) ∧ Below w.heap.size w w' := by
  have HC := Lib.hid (indexFunc_tx s hs)
  clear hs
  go_enter Try.func81, Try.ntmps81
  go_wp2_with (go_at_call 92; refine (HC.out _).mono ?_; rintro e w' ⟨rfl, hb⟩)
  go_ret
  exact ⟨rfl, hb⟩
theorem strContainsFunc_tx (s : ByteArray) (hs : IsTx s) (w : World) :
    Calls Try.prog 58 #[.string s, .func (.func 59) #[] #[]] w fun e w' => e = .returned (.bool false) ∧ Below w.heap.size w w' := by
  have HC := Lib.hid (strIndexFunc_tx s hs)
  clear hs
  go_enter Try.func58, Try.ntmps58
  go_wp2_with (go_at_call 81; refine (HC.out _).mono ?_; rintro e w' ⟨rfl, hb⟩)
  go_ret
  exact ⟨rfl, hb⟩
/-- A line of a book that is valid. -/
structure OkLine (x : S48) : Prop where
  no1 : 0 ≤ x.f0
  no2 : x.f0 ≤ 99
  sz : x.f1.size ≤ 12
  tx : IsTx x.f1
set_option maxRecDepth 100000 in
set_option maxHeartbeats 2000000 in
theorem isLine_yes (x : S48) (ok : OkLine x) (w : World) :
    Calls Try.prog 43 #[.agg #[.int .i64 x.f0, .string x.f1]] w fun e w' => e = .returned (.bool true) ∧ Below w.heap.size w w' := by
  obtain ⟨h1, h2, h3, h4⟩ := ok
  have HC := Lib.hid (strContainsFunc_tx x.f1 h4)
  generalize x.f0 = no at h1 h2
  generalize x.f1 = tx at h3 HC
  have h3b : ((tx.size : Nat) : Int) ≤ 12 := by omega
  clear h4
  go_enter Try.func43, Try.ntmps43
  go_wp2_with fail
  refine (within_file_1y 0 99 no _ _ h1 h2 (by simp)).mono ?_
  rintro e w1 ⟨rfl, hb1⟩
  have BX := Aside0.mk (blk_below (blk_alloc (blk_new w (.cells #[.int .i64 no, .string tx] 48)) _) hb1)
  have HB1 := Aside0.mk (below_step (below_alloc (below_alloc (Below.refl w.heap.size w) (.cells #[.int .i64 no, .string tx] 48)) _) hb1)
  have q0 : w1.cell? ⟨w.heap.size, 0, none⟩ = some (.int .i64 no) := (blk_cell BX.out 0).trans rfl
  have q1 : w1.cell? ⟨w.heap.size, 1, none⟩ = some (.string tx) := (blk_cell BX.out 1).trans rfl
  clear hb1
  go_wp2_with (go_at_call 58; refine (HC.out _).mono ?_; rintro e w2 ⟨rfl, hb2⟩; replace hb2 := Aside0.mk hb2)
  go_ret
  exact ⟨rfl, below_step HB1.out hb2.out⟩
end Go.Proofs.Ytfbndhhogpacmaa
/-! file.isBook at a book that is valid. Written by made36.py out of C28.src. -/
namespace Go.Proofs.Ytfbndhhogpacmaa
open Go.RowKit Go.Shelf
open Go.Proofs.YtfbndhhogpacmaaW.PrintWords Go.Proofs.YtfbndhhogpacmaaW.PrintLast Go.Proofs.YtfbndhhogpacmaaW.PrintMore Go.Proofs.Ytfbndhhogpacmaa.T
set_option linter.unusedVariables false
set_option linter.unusedSimpArgs false
/-- A book that is valid. -/
structure OkBook (l : List S48) : Prop where
  ln : ∀ x ∈ l, OkLine x
  up : ∀ (k : Nat) (h : k + 1 < l.length), (l[k]'(by omega)).f0 < (l[k + 1]'h).f0
  sz : l.length ≤ 12
/-- A slice that begins where its block does. -/
def Plain (A : Option Addr) : Prop := ∀ ad, A = some ad → ∃ g, ad = ⟨g, 0, none⟩
theorem at84 {w : World} {A : Option Addr} {l : List S48} (hA : Plain A) (h : k48.C w A l.length l) (k : Nat) (hk : k < l.length) :
    ∃ g, A = some ⟨g, 0, none⟩ ∧ w.cell? ⟨g, k * 2, none⟩ = some (.int .i64 l[k].f0) ∧ w.cell? ⟨g, k * 2 + 1, none⟩ = some (.string l[k].f1) := by
  obtain ⟨ad, eA, h0, h1⟩ := at_T48 h (k : Int) (by omega) (by omega)
  obtain ⟨g, rfl⟩ := hA ad eA
  have hrd : rd_T48 l (k : Int) = l[k] := getD_at l k _ hk
  rw [hrd] at h0 h1
  exact ⟨g, eA, by rw [add_plain] at h0; simpa using h0, by rw [add_plain] at h1; simpa using h1⟩
def isBook.T4 : Bool × List (List Nat × List Nat) := (true, [([], []), ([0], [0]), ([1], [1]), ([2, 1], [2]), ([3], [3]), ([4, 3], [3, 4]), ([5, 3, 3], [3, 5]), ([6], [6]), ([7, 6], [6, 7]), ([6], [6]), ([6], [6]), ([10, 6], [6, 10]), ([9, 11, 6], [6, 9, 11]), ([12, 6], [6, 12]), ([13, 6], [6, 13]), ([8, 14, 6], [6, 8, 14]), ([6, 15, 3], [3, 6, 15]), ([3, 16], [3, 16])])
def isBook.B4 : List Nat := [0, 1, 3, 7, 15, 31, 63, 127, 255, 127, 127, 1151, 3711, 7807, 15999, 32767, 65535, 131071]
theorem isBook.tab4 : rtab .any (opsOf Try.f20 4) = isBook.T4 := by kernel_rfl
theorem isBook.bits4 : waitsOk isBook.T4.2 isBook.B4 = true := by kernel_rfl
set_option maxRecDepth 100000 in
set_option maxHeartbeats 8000000 in
theorem isBook_yes (A : Option Addr) (c : Nat) (hA : Plain A) (l : List S48) (ok : OkBook l) (w : World) (hC : k48.C w A l.length l) :
    Calls Try.prog 20 #[.slice A l.length c] w fun e w' => e = .returned (.bool true) ∧ Below w.heap.size w w' := by
  obtain ⟨ln, up, sz⟩ := ok
  have HLN := Aside0.mk ln
  have HUP := Aside0.mk up
  have HC := Aside0.mk hC
  have hszz : (l.length : Int) ≤ 12 := by omega
  clear ln up hC
  go_enter Try.func20, Try.ntmps20
  go_wp2_with fail
  go_loopw [3, 4, 7] (fun _ _ s7 wr => ∃ m : Nat, m ≤ l.length ∧ s7 = .int .i64 m ∧ Aside0 (Below w.heap.size w wr)) (fun _ _ s7 _ => l.length - (intOf s7).toNat)
  case atStart => exact ⟨0, Nat.zero_le _, rfl, ⟨Below.refl _ _⟩⟩
  case round =>
    obtain ⟨m, hm, rfl, HB⟩ := hrel
    rename World => wo
    by_cases hlt : m < l.length
    · have hltz : (m : Int) < (l.length : Int) := by omega
      have hm0 : (0 : Int) ≤ (m : Int) := by omega
      have HCo := Aside0.mk (Kd.C_below HC.out HB.out)
      obtain ⟨g, rfl, x0, x1⟩ := at84 hA HCo.out m hlt
      have hx := HLN.out l[m] (List.getElem_mem hlt)
      have HIL := Lib.hid (fun W => isLine_yes l[m] hx W)
      have HPV : Aside0 (0 < m → ∃ (k : Nat) (prev : Int), m = k + 1 ∧ wo.cell? ⟨g, k * 2, none⟩ = some (.int .i64 prev) ∧ prev < l[m].f0) := ⟨fun h => by
        obtain ⟨k, rfl⟩ : ∃ k, m = k + 1 := ⟨m - 1, by omega⟩
        obtain ⟨g', e, y0, _⟩ := at84 hA HCo.out k (by omega)
        cases e
        exact ⟨k, _, rfl, y0, HUP.out k hlt⟩⟩
      generalize l[m] = x at x0 x1 hx HIL HPV
      obtain ⟨no, tx⟩ := x
      simp only at x0 x1 HIL HPV
      go_wp2_with fail
      have P0 : (wo.alloc (.cells #[.int .i64 no, .string tx] 48)).cell? ⟨wo.heap.size, 0, none⟩ = some (.int .i64 no) := (blk_cell (blk_new wo _) 0).trans rfl
      have P1 : (wo.alloc (.cells #[.int .i64 no, .string tx] 48)).cell? ⟨wo.heap.size, 1, none⟩ = some (.string tx) := (blk_cell (blk_new wo _) 1).trans rfl
      have HB4 := Aside0.mk (below_alloc HB.out (.cells #[.int .i64 no, .string tx] 48))
      have HBo := below_alloc (Below.refl wo.heap.size wo) (.cells #[.int .i64 no, .string tx] 48)
      generalize wo.alloc (.cells #[.int .i64 no, .string tx] 48) = wi at P0 P1 HB4 HBo ⊢
      have HPI : Aside0 (0 < m → ∃ (k : Nat) (prev : Int), m = k + 1 ∧ wi.cell? ⟨g, k * 2, none⟩ = some (.int .i64 prev) ∧ prev < no) := ⟨fun h => by
        obtain ⟨k, prev, hk, z, h2⟩ := HPV.out h
        exact ⟨k, prev, hk, (HBo.cell (p := ⟨g, k * 2, none⟩) (World.block_lt_of_cell? _ _ z)).trans z, h2⟩⟩
      clear HBo HPV
      generalize wo.heap.size = b4 at P0 P1 ⊢
      go_cut [29] from 12 to 29 (fun s29 wx => s29 = .bool false ∧ Aside0 (Below wi.heap.size wi wx))
      case first =>
        have p0 := P0
        have p1 := P1
        have hb4 : b4 < wi.heap.size := World.block_lt_of_cell? _ _ P0
        rcases Nat.eq_zero_or_pos m with hz | hpos
        · have HZ := Aside0.mk hz
          have hq0 : ¬ (0 : Int) < (m : Int) := by omega
          clear HPI HCo HB4 HB x0 x1 P0 P1 hz hm0
          refine start_ (n := 18) (S := fun w' => True) (ds := []) #[false, false, false, false, false, false, false, false, false, false, false, false, false, false, false, false, false, false] (by kernel_rfl) rfl rfl trivial (fun hHeld => ?_)
          refine with_tabW isBook.tab4 isBook.bits4 (fun HT_ HW_ => ?_)
          have FB := Aside0.mk (below_drew (Below.refl wi.heap.size wi))
          generalize wi.drew = w8 at FB ⊢
          refine inv_at [0, 1, 2, 3, 4, 5, 6, 7, 8, 9, 10, 11, 12, 13, 14, 15, 16, 17] (fun a0_ b a w' => a = putSel a0_ b [(0, 12, .agg #[.int .i64 no, .string tx]), (1, 13, .bool true), (2, 14, .bool false), (3, 15, .bool false), (4, 16, .int .i64 m), (5, 17, .bool false), (6, 18, .bool false), (7, 19, undef), (8, 20, undef), (9, 21, undef), (10, 22, undef), (11, 23, undef), (12, 24, undef), (13, 25, undef), (14, 26, undef), (15, 27, undef), (16, 28, .bool false), (17, 29, .bool false)] ∧ (Below wi.heap.size wi w')) HT_.out HW_.out (by kernel_rfl) (by kernel_rfl) ?_ ?_ ?_
          · exact ⟨by simp only [putSel, Bool.false_eq_true, if_false], FB.out⟩
          · skip
            clear FB
            refine steps_cons ?_ ?_
            · rintro b a w' ⟨ha, Q_FB⟩ hb_ hon hoff
              refine ⟨_, rfl, fun K hK => ?_⟩
              have e4 : a.tmps[4]? = some (.pointer (some ⟨b4, 0, none⟩)) := by rw [ha]; exact (putSel_off rfl).trans rfl
              replace ha := Aside0.mk ha
              have FB := Aside0.mk Q_FB
              have h0_ : w'.cell? ⟨b4, 0, none⟩ = some (.int .i64 no) := (FB.out.cell (p := ⟨b4, 0, none⟩) hb4).trans p0
              have h1_ : w'.cell? ⟨b4, 1, none⟩ = some (.string tx) := (FB.out.cell (p := ⟨b4, 1, none⟩) hb4).trans p1
              refine value_ (w1 := w') (v := .agg #[.int .i64 no, .string tx]) (by rfl) rfl ?_ ?_
              · go_simp
                (try simp only [i64_w])
                try rfl
              refine hK.out _ _ ⟨(by rw [ha.out]; exact putSel_upk 0 hb_ rfl rfl rfl), Q_FB⟩
            refine steps_cons ?_ ?_
            · rintro b a w' ⟨ha, Q_FB⟩ hb_ hon hoff
              refine ⟨_, rfl, fun K hK => ?_⟩
              have e12 : a.tmps[12]? = some (.agg #[.int .i64 no, .string tx]) := by rw [ha]; exact putSel_on (e := (0, 12, .agg #[.int .i64 no, .string tx])) 0 rfl rfl (hon 0 (by kernel_rfl)) rfl
              replace ha := Aside0.mk ha
              have FB := Aside0.mk Q_FB
              refine goes_ Try.func43 (by kernel_rfl) rfl #[.agg #[.int .i64 no, .string tx]] (by rfl) rfl rfl (by first | rfl | (simp [Act.eval, e12]; done)) ?_
              refine (HIL.out _).mono ?_
              rintro e w2_ ⟨rfl, hbN⟩
              refine ⟨_, rfl, ?_⟩
              refine hK.out _ _ ⟨(by rw [ha.out]; exact putSel_upk 1 hb_ rfl rfl rfl), FB.out.trans (hbN.mono FB.out.size)⟩
            refine steps_cons ?_ ?_
            · rintro b a w' ⟨ha, Q_FB⟩ hb_ hon hoff
              refine ⟨_, rfl, fun K hK => ?_⟩
              have e13 : a.tmps[13]? = some (.bool true) := by rw [ha]; exact putSel_on (e := (1, 13, .bool true)) 1 rfl rfl (hon 1 (by kernel_rfl)) rfl
              replace ha := Aside0.mk ha
              have FB := Aside0.mk Q_FB
              refine value_ (w1 := w') (v := .bool false) (by rfl) rfl ?_ ?_
              · go_simp
                (try simp only [i64_w])
                try rfl
              refine hK.out _ _ ⟨(by rw [ha.out]; exact putSel_upk 2 hb_ rfl rfl rfl), Q_FB⟩
            refine steps_cons ?_ ?_
            · rintro b a w' ⟨ha, Q_FB⟩ hb_ hon hoff
              refine ⟨_, rfl, fun K hK => ?_⟩
              have e14 : a.tmps[14]? = some (.bool false) := by rw [ha]; exact putSel_on (e := (2, 14, .bool false)) 2 rfl rfl (hon 2 (by kernel_rfl)) rfl
              replace ha := Aside0.mk ha
              have FB := Aside0.mk Q_FB
              refine value_ (w1 := w') (v := .bool false) (by rfl) rfl ?_ ?_
              · go_simp
                (try simp only [i64_w])
                try rfl
              refine hK.out _ _ ⟨(by rw [ha.out]; exact putSel_upk 3 hb_ rfl rfl rfl), Q_FB⟩
            refine steps_cons ?_ ?_
            · rintro b a w' ⟨ha, Q_FB⟩ hb_ hon hoff
              refine ⟨_, rfl, fun K hK => ?_⟩
              have e3 : a.tmps[3]? = some (.int .i64 m) := by rw [ha]; exact (putSel_off rfl).trans rfl
              have e15 : a.tmps[15]? = some (.bool false) := by rw [ha]; exact putSel_on (e := (3, 15, .bool false)) 3 rfl rfl (hon 3 (by kernel_rfl)) rfl
              replace ha := Aside0.mk ha
              have FB := Aside0.mk Q_FB
              refine value_ (w1 := w') (v := .int .i64 m) (wanted_on rfl rfl rfl (e15.trans (by first | rfl | (simp [*]; done)))) rfl ?_ ?_
              · go_simp
                (try simp only [i64_w])
                try rfl
              refine hK.out _ _ ⟨(by rw [ha.out]; exact putSel_upk 4 hb_ rfl rfl rfl), Q_FB⟩
            refine steps_cons ?_ ?_
            · rintro b a w' ⟨ha, Q_FB⟩ hb_ hon hoff
              refine ⟨_, rfl, fun K hK => ?_⟩
              have e16 : a.tmps[16]? = some (.int .i64 m) := by rw [ha]; exact putSel_on (e := (4, 16, .int .i64 m)) 4 rfl rfl (hon 4 (by kernel_rfl)) rfl
              have e15 : a.tmps[15]? = some (.bool false) := by rw [ha]; exact putSel_on (e := (3, 15, .bool false)) 3 rfl rfl (hon 3 (by kernel_rfl)) rfl
              replace ha := Aside0.mk ha
              have FB := Aside0.mk Q_FB
              have hz5_ : m = 0 := HZ.out
              refine value_ (w1 := w') (v := .bool false) (wanted_on rfl rfl rfl (e15.trans (by first | rfl | (simp [*]; done)))) rfl ?_ ?_
              · go_simp
                (try simp only [i64_w])
                try rfl
              refine hK.out _ _ ⟨(by rw [ha.out]; exact putSel_upk 5 hb_ rfl rfl rfl), Q_FB⟩
            refine steps_cons ?_ ?_
            · rintro b a w' ⟨ha, Q_FB⟩ hb_ hon hoff
              refine ⟨_, rfl, fun K hK => ?_⟩
              have e17 : a.tmps[17]? = some (.bool false) := by rw [ha]; exact putSel_on (e := (5, 17, .bool false)) 5 rfl rfl (hon 5 (by kernel_rfl)) rfl
              have e15 : a.tmps[15]? = some (.bool false) := by rw [ha]; exact putSel_on (e := (3, 15, .bool false)) 3 rfl rfl (hon 3 (by kernel_rfl)) rfl
              replace ha := Aside0.mk ha
              have FB := Aside0.mk Q_FB
              refine value_ (w1 := w') (v := .bool false) (wanted_on rfl rfl rfl (e15.trans (by first | rfl | (simp [*]; done)))) rfl ?_ ?_
              · go_simp
                (try simp only [i64_w])
                try rfl
              refine hK.out _ _ ⟨(by rw [ha.out]; exact putSel_upk 6 hb_ rfl rfl rfl), Q_FB⟩
            refine steps_cons ?_ ?_
            · rintro b a w' ⟨ha, Q_FB⟩ hb_ hon hoff
              refine ⟨_, rfl, fun K hK => ?_⟩
              have e18 : a.tmps[18]? = some (.bool false) := by rw [ha]; exact putSel_on (e := (6, 18, .bool false)) 6 rfl rfl (hon 6 (by kernel_rfl)) rfl
              replace ha := Aside0.mk ha
              have FB := Aside0.mk Q_FB
              refine off_ (wanted_off rfl rfl rfl (e18.trans (by first | rfl | (simp [*]; done)))) ?_
              refine hK.out _ _ ⟨(by rw [ha.out]; exact putSel_upk 7 hb_ rfl rfl rfl), Q_FB⟩
            refine steps_cons ?_ ?_
            · rintro b a w' ⟨ha, Q_FB⟩ hb_ hon hoff
              refine ⟨_, rfl, fun K hK => ?_⟩
              have e18 : a.tmps[18]? = some (.bool false) := by rw [ha]; exact putSel_on (e := (6, 18, .bool false)) 6 rfl rfl (hon 6 (by kernel_rfl)) rfl
              replace ha := Aside0.mk ha
              have FB := Aside0.mk Q_FB
              refine off_ (wanted_off rfl rfl rfl (e18.trans (by first | rfl | (simp [*]; done)))) ?_
              refine hK.out _ _ ⟨(by rw [ha.out]; exact putSel_upk 8 hb_ rfl rfl rfl), Q_FB⟩
            refine steps_cons ?_ ?_
            · rintro b a w' ⟨ha, Q_FB⟩ hb_ hon hoff
              refine ⟨_, rfl, fun K hK => ?_⟩
              have e18 : a.tmps[18]? = some (.bool false) := by rw [ha]; exact putSel_on (e := (6, 18, .bool false)) 6 rfl rfl (hon 6 (by kernel_rfl)) rfl
              replace ha := Aside0.mk ha
              have FB := Aside0.mk Q_FB
              refine off_ (wanted_off rfl rfl rfl (e18.trans (by first | rfl | (simp [*]; done)))) ?_
              refine hK.out _ _ ⟨(by rw [ha.out]; exact putSel_upk 9 hb_ rfl rfl rfl), Q_FB⟩
            refine steps_cons ?_ ?_
            · rintro b a w' ⟨ha, Q_FB⟩ hb_ hon hoff
              refine ⟨_, rfl, fun K hK => ?_⟩
              have e18 : a.tmps[18]? = some (.bool false) := by rw [ha]; exact putSel_on (e := (6, 18, .bool false)) 6 rfl rfl (hon 6 (by kernel_rfl)) rfl
              replace ha := Aside0.mk ha
              have FB := Aside0.mk Q_FB
              refine off_ (wanted_off rfl rfl rfl (e18.trans (by first | rfl | (simp [*]; done)))) ?_
              refine hK.out _ _ ⟨(by rw [ha.out]; exact putSel_upk 10 hb_ rfl rfl rfl), Q_FB⟩
            refine steps_cons ?_ ?_
            · rintro b a w' ⟨ha, Q_FB⟩ hb_ hon hoff
              refine ⟨_, rfl, fun K hK => ?_⟩
              have e18 : a.tmps[18]? = some (.bool false) := by rw [ha]; exact putSel_on (e := (6, 18, .bool false)) 6 rfl rfl (hon 6 (by kernel_rfl)) rfl
              replace ha := Aside0.mk ha
              have FB := Aside0.mk Q_FB
              refine off_ (wanted_off rfl rfl rfl (e18.trans (by first | rfl | (simp [*]; done)))) ?_
              refine hK.out _ _ ⟨(by rw [ha.out]; exact putSel_upk 11 hb_ rfl rfl rfl), Q_FB⟩
            refine steps_cons ?_ ?_
            · rintro b a w' ⟨ha, Q_FB⟩ hb_ hon hoff
              refine ⟨_, rfl, fun K hK => ?_⟩
              have e18 : a.tmps[18]? = some (.bool false) := by rw [ha]; exact putSel_on (e := (6, 18, .bool false)) 6 rfl rfl (hon 6 (by kernel_rfl)) rfl
              replace ha := Aside0.mk ha
              have FB := Aside0.mk Q_FB
              refine off_ (wanted_off rfl rfl rfl (e18.trans (by first | rfl | (simp [*]; done)))) ?_
              refine hK.out _ _ ⟨(by rw [ha.out]; exact putSel_upk 12 hb_ rfl rfl rfl), Q_FB⟩
            refine steps_cons ?_ ?_
            · rintro b a w' ⟨ha, Q_FB⟩ hb_ hon hoff
              refine ⟨_, rfl, fun K hK => ?_⟩
              have e18 : a.tmps[18]? = some (.bool false) := by rw [ha]; exact putSel_on (e := (6, 18, .bool false)) 6 rfl rfl (hon 6 (by kernel_rfl)) rfl
              replace ha := Aside0.mk ha
              have FB := Aside0.mk Q_FB
              refine off_ (wanted_off rfl rfl rfl (e18.trans (by first | rfl | (simp [*]; done)))) ?_
              refine hK.out _ _ ⟨(by rw [ha.out]; exact putSel_upk 13 hb_ rfl rfl rfl), Q_FB⟩
            refine steps_cons ?_ ?_
            · rintro b a w' ⟨ha, Q_FB⟩ hb_ hon hoff
              refine ⟨_, rfl, fun K hK => ?_⟩
              have e18 : a.tmps[18]? = some (.bool false) := by rw [ha]; exact putSel_on (e := (6, 18, .bool false)) 6 rfl rfl (hon 6 (by kernel_rfl)) rfl
              replace ha := Aside0.mk ha
              have FB := Aside0.mk Q_FB
              refine off_ (wanted_off rfl rfl rfl (e18.trans (by first | rfl | (simp [*]; done)))) ?_
              refine hK.out _ _ ⟨(by rw [ha.out]; exact putSel_upk 14 hb_ rfl rfl rfl), Q_FB⟩
            refine steps_cons ?_ ?_
            · rintro b a w' ⟨ha, Q_FB⟩ hb_ hon hoff
              refine ⟨_, rfl, fun K hK => ?_⟩
              have e18 : a.tmps[18]? = some (.bool false) := by rw [ha]; exact putSel_on (e := (6, 18, .bool false)) 6 rfl rfl (hon 6 (by kernel_rfl)) rfl
              replace ha := Aside0.mk ha
              have FB := Aside0.mk Q_FB
              refine off_ (wanted_off rfl rfl rfl (e18.trans (by first | rfl | (simp [*]; done)))) ?_
              refine hK.out _ _ ⟨(by rw [ha.out]; exact putSel_upk 15 hb_ rfl rfl rfl), Q_FB⟩
            refine steps_cons ?_ ?_
            · rintro b a w' ⟨ha, Q_FB⟩ hb_ hon hoff
              refine ⟨_, rfl, fun K hK => ?_⟩
              have e18 : a.tmps[18]? = some (.bool false) := by rw [ha]; exact putSel_on (e := (6, 18, .bool false)) 6 rfl rfl (hon 6 (by kernel_rfl)) rfl
              have e27 : a.tmps[27]? = some (undef) := by rw [ha]; exact putSel_on (e := (15, 27, undef)) 15 rfl rfl (hon 15 (by kernel_rfl)) rfl
              have e15 : a.tmps[15]? = some (.bool false) := by rw [ha]; exact putSel_on (e := (3, 15, .bool false)) 3 rfl rfl (hon 3 (by kernel_rfl)) rfl
              replace ha := Aside0.mk ha
              have FB := Aside0.mk Q_FB
              refine value_ (w1 := w') (v := .bool false) (wanted_on rfl rfl rfl (e15.trans (by first | rfl | (simp [*]; done)))) rfl ?_ ?_
              · go_simp
                (try simp only [i64_w])
                try rfl
              refine hK.out _ _ ⟨(by rw [ha.out]; exact putSel_upk 16 hb_ rfl rfl rfl), Q_FB⟩
            refine steps_cons ?_ ?_
            · rintro b a w' ⟨ha, Q_FB⟩ hb_ hon hoff
              refine ⟨_, rfl, fun K hK => ?_⟩
              have e15 : a.tmps[15]? = some (.bool false) := by rw [ha]; exact putSel_on (e := (3, 15, .bool false)) 3 rfl rfl (hon 3 (by kernel_rfl)) rfl
              have e28 : a.tmps[28]? = some (.bool false) := by rw [ha]; exact putSel_on (e := (16, 28, .bool false)) 16 rfl rfl (hon 16 (by kernel_rfl)) rfl
              replace ha := Aside0.mk ha
              have FB := Aside0.mk Q_FB
              refine value_ (w1 := w') (v := .bool false) (by rfl) rfl ?_ ?_
              · go_simp
                (try simp only [i64_w])
                try rfl
              refine hK.out _ _ ⟨(by rw [ha.out]; exact putSel_upk 17 hb_ rfl rfl rfl), Q_FB⟩
            exact steps_nil
          · rintro b a w' hall ⟨ha, Q_FB⟩
            clear FB
            have hb0_ := hall 0 (by kernel_rfl)
            have hb1_ := hall 1 (by kernel_rfl)
            have hb2_ := hall 2 (by kernel_rfl)
            have hb3_ := hall 3 (by kernel_rfl)
            have hb4_ := hall 4 (by kernel_rfl)
            have hb5_ := hall 5 (by kernel_rfl)
            have hb6_ := hall 6 (by kernel_rfl)
            have hb7_ := hall 7 (by kernel_rfl)
            have hb8_ := hall 8 (by kernel_rfl)
            have hb9_ := hall 9 (by kernel_rfl)
            have hb10_ := hall 10 (by kernel_rfl)
            have hb11_ := hall 11 (by kernel_rfl)
            have hb12_ := hall 12 (by kernel_rfl)
            have hb13_ := hall 13 (by kernel_rfl)
            have hb14_ := hall 14 (by kernel_rfl)
            have hb15_ := hall 15 (by kernel_rfl)
            have hb16_ := hall 16 (by kernel_rfl)
            have hb17_ := hall 17 (by kernel_rfl)
            subst ha
            simp only [putSel, hb0_, hb1_, hb2_, hb3_, hb4_, hb5_, hb6_, hb7_, hb8_, hb9_, hb10_, hb11_, hb12_, hb13_, hb14_, hb15_, hb16_, hb17_, if_true, Act.put, List.setIfInBounds_toArray, List.set_cons_zero, List.set_cons_succ]
            have FB := Aside0.mk Q_FB
            clear Q_FB
            clear hall hb0_ hb1_ hb2_ hb3_ hb4_ hb5_ hb6_ hb7_ hb8_ hb9_ hb10_ hb11_ hb12_ hb13_ hb14_ hb15_ hb16_ hb17_
            go_wp2_with fail
            go_meet
            exact ⟨rfl, FB⟩
        · have HZ := Aside0.mk hpos
          obtain ⟨k, prev, hk, z0, hlt2⟩ := HPI.out hpos
          have hgi : g < wi.heap.size := World.block_lt_of_cell? _ _ z0
          have hw1 : IntKind.i64.wrap ((m : Int) - 1) = (k : Int) := by rw [IntKind.wrap_i64]; omega
          have hk0 : (0 : Int) ≤ (k : Int) := by omega
          have hk1 : (k : Int) < (l.length : Int) := by omega
          have hle : ¬ no ≤ prev := by omega
          have hq0 : (0 : Int) < (m : Int) := by omega
          clear HPI HCo HB4 HB x0 x1 P0 P1 hpos hk hlt2 hm0
          refine start_ (n := 18) (S := fun w' => True) (ds := []) #[false, false, false, false, false, false, false, false, false, false, false, false, false, false, false, false, false, false] (by kernel_rfl) rfl rfl trivial (fun hHeld => ?_)
          refine with_tabW isBook.tab4 isBook.bits4 (fun HT_ HW_ => ?_)
          have FB := Aside0.mk (below_drew (Below.refl wi.heap.size wi))
          generalize wi.drew = w8 at FB ⊢
          refine inv_at [0, 1, 2, 3, 4, 5, 6, 7, 8, 9, 10, 11, 12, 13, 14, 15, 16, 17] (fun a0_ b a w' => a = putSel a0_ b [(0, 12, .agg #[.int .i64 no, .string tx]), (1, 13, .bool true), (2, 14, .bool false), (3, 15, .bool false), (4, 16, .int .i64 m), (5, 17, .bool true), (6, 18, .bool true), (7, 19, .pointer (some ⟨b4, 0, none⟩)), (8, 20, .int .i64 no), (9, 21, .slice (some ⟨g, 0, none⟩) l.length c), (10, 22, .int .i64 m), (11, 23, .int .i64 (k : Int)), (12, 24, .pointer (some ⟨g, k * 2, none⟩)), (13, 25, .pointer (some ⟨g, k * 2, none⟩)), (14, 26, .int .i64 prev), (15, 27, .bool false), (16, 28, .bool false), (17, 29, .bool false)] ∧ (Below wi.heap.size wi w')) HT_.out HW_.out (by kernel_rfl) (by kernel_rfl) ?_ ?_ ?_
          · exact ⟨by simp only [putSel, Bool.false_eq_true, if_false], FB.out⟩
          · skip
            clear FB
            refine steps_cons ?_ ?_
            · rintro b a w' ⟨ha, Q_FB⟩ hb_ hon hoff
              refine ⟨_, rfl, fun K hK => ?_⟩
              have e4 : a.tmps[4]? = some (.pointer (some ⟨b4, 0, none⟩)) := by rw [ha]; exact (putSel_off rfl).trans rfl
              replace ha := Aside0.mk ha
              have FB := Aside0.mk Q_FB
              have h0_ : w'.cell? ⟨b4, 0, none⟩ = some (.int .i64 no) := (FB.out.cell (p := ⟨b4, 0, none⟩) hb4).trans p0
              have h1_ : w'.cell? ⟨b4, 1, none⟩ = some (.string tx) := (FB.out.cell (p := ⟨b4, 1, none⟩) hb4).trans p1
              refine value_ (w1 := w') (v := .agg #[.int .i64 no, .string tx]) (by rfl) rfl ?_ ?_
              · go_simp
                (try simp only [i64_w])
                try rfl
              refine hK.out _ _ ⟨(by rw [ha.out]; exact putSel_upk 0 hb_ rfl rfl rfl), Q_FB⟩
            refine steps_cons ?_ ?_
            · rintro b a w' ⟨ha, Q_FB⟩ hb_ hon hoff
              refine ⟨_, rfl, fun K hK => ?_⟩
              have e12 : a.tmps[12]? = some (.agg #[.int .i64 no, .string tx]) := by rw [ha]; exact putSel_on (e := (0, 12, .agg #[.int .i64 no, .string tx])) 0 rfl rfl (hon 0 (by kernel_rfl)) rfl
              replace ha := Aside0.mk ha
              have FB := Aside0.mk Q_FB
              refine goes_ Try.func43 (by kernel_rfl) rfl #[.agg #[.int .i64 no, .string tx]] (by rfl) rfl rfl (by first | rfl | (simp [Act.eval, e12]; done)) ?_
              refine (HIL.out _).mono ?_
              rintro e w2_ ⟨rfl, hbN⟩
              refine ⟨_, rfl, ?_⟩
              refine hK.out _ _ ⟨(by rw [ha.out]; exact putSel_upk 1 hb_ rfl rfl rfl), FB.out.trans (hbN.mono FB.out.size)⟩
            refine steps_cons ?_ ?_
            · rintro b a w' ⟨ha, Q_FB⟩ hb_ hon hoff
              refine ⟨_, rfl, fun K hK => ?_⟩
              have e13 : a.tmps[13]? = some (.bool true) := by rw [ha]; exact putSel_on (e := (1, 13, .bool true)) 1 rfl rfl (hon 1 (by kernel_rfl)) rfl
              replace ha := Aside0.mk ha
              have FB := Aside0.mk Q_FB
              refine value_ (w1 := w') (v := .bool false) (by rfl) rfl ?_ ?_
              · go_simp
                (try simp only [i64_w])
                try rfl
              refine hK.out _ _ ⟨(by rw [ha.out]; exact putSel_upk 2 hb_ rfl rfl rfl), Q_FB⟩
            refine steps_cons ?_ ?_
            · rintro b a w' ⟨ha, Q_FB⟩ hb_ hon hoff
              refine ⟨_, rfl, fun K hK => ?_⟩
              have e14 : a.tmps[14]? = some (.bool false) := by rw [ha]; exact putSel_on (e := (2, 14, .bool false)) 2 rfl rfl (hon 2 (by kernel_rfl)) rfl
              replace ha := Aside0.mk ha
              have FB := Aside0.mk Q_FB
              refine value_ (w1 := w') (v := .bool false) (by rfl) rfl ?_ ?_
              · go_simp
                (try simp only [i64_w])
                try rfl
              refine hK.out _ _ ⟨(by rw [ha.out]; exact putSel_upk 3 hb_ rfl rfl rfl), Q_FB⟩
            refine steps_cons ?_ ?_
            · rintro b a w' ⟨ha, Q_FB⟩ hb_ hon hoff
              refine ⟨_, rfl, fun K hK => ?_⟩
              have e3 : a.tmps[3]? = some (.int .i64 m) := by rw [ha]; exact (putSel_off rfl).trans rfl
              have e15 : a.tmps[15]? = some (.bool false) := by rw [ha]; exact putSel_on (e := (3, 15, .bool false)) 3 rfl rfl (hon 3 (by kernel_rfl)) rfl
              replace ha := Aside0.mk ha
              have FB := Aside0.mk Q_FB
              refine value_ (w1 := w') (v := .int .i64 m) (wanted_on rfl rfl rfl (e15.trans (by first | rfl | (simp [*]; done)))) rfl ?_ ?_
              · go_simp
                (try simp only [i64_w])
                try rfl
              refine hK.out _ _ ⟨(by rw [ha.out]; exact putSel_upk 4 hb_ rfl rfl rfl), Q_FB⟩
            refine steps_cons ?_ ?_
            · rintro b a w' ⟨ha, Q_FB⟩ hb_ hon hoff
              refine ⟨_, rfl, fun K hK => ?_⟩
              have e16 : a.tmps[16]? = some (.int .i64 m) := by rw [ha]; exact putSel_on (e := (4, 16, .int .i64 m)) 4 rfl rfl (hon 4 (by kernel_rfl)) rfl
              have e15 : a.tmps[15]? = some (.bool false) := by rw [ha]; exact putSel_on (e := (3, 15, .bool false)) 3 rfl rfl (hon 3 (by kernel_rfl)) rfl
              replace ha := Aside0.mk ha
              have FB := Aside0.mk Q_FB
              have hz5_ : 0 < m := HZ.out
              refine value_ (w1 := w') (v := .bool true) (wanted_on rfl rfl rfl (e15.trans (by first | rfl | (simp [*]; done)))) rfl ?_ ?_
              · go_simp
                (try simp only [i64_w])
                try rfl
              refine hK.out _ _ ⟨(by rw [ha.out]; exact putSel_upk 5 hb_ rfl rfl rfl), Q_FB⟩
            refine steps_cons ?_ ?_
            · rintro b a w' ⟨ha, Q_FB⟩ hb_ hon hoff
              refine ⟨_, rfl, fun K hK => ?_⟩
              have e17 : a.tmps[17]? = some (.bool true) := by rw [ha]; exact putSel_on (e := (5, 17, .bool true)) 5 rfl rfl (hon 5 (by kernel_rfl)) rfl
              have e15 : a.tmps[15]? = some (.bool false) := by rw [ha]; exact putSel_on (e := (3, 15, .bool false)) 3 rfl rfl (hon 3 (by kernel_rfl)) rfl
              replace ha := Aside0.mk ha
              have FB := Aside0.mk Q_FB
              refine value_ (w1 := w') (v := .bool true) (wanted_on rfl rfl rfl (e15.trans (by first | rfl | (simp [*]; done)))) rfl ?_ ?_
              · go_simp
                (try simp only [i64_w])
                try rfl
              refine hK.out _ _ ⟨(by rw [ha.out]; exact putSel_upk 6 hb_ rfl rfl rfl), Q_FB⟩
            refine steps_cons ?_ ?_
            · rintro b a w' ⟨ha, Q_FB⟩ hb_ hon hoff
              refine ⟨_, rfl, fun K hK => ?_⟩
              have e4 : a.tmps[4]? = some (.pointer (some ⟨b4, 0, none⟩)) := by rw [ha]; exact (putSel_off rfl).trans rfl
              have e18 : a.tmps[18]? = some (.bool true) := by rw [ha]; exact putSel_on (e := (6, 18, .bool true)) 6 rfl rfl (hon 6 (by kernel_rfl)) rfl
              replace ha := Aside0.mk ha
              have FB := Aside0.mk Q_FB
              refine value_ (w1 := w') (v := .pointer (some ⟨b4, 0, none⟩)) (wanted_on rfl rfl rfl (e18.trans (by first | rfl | (simp [*]; done)))) rfl ?_ ?_
              · go_simp
                (try simp only [i64_w])
                try rfl
              refine hK.out _ _ ⟨(by rw [ha.out]; exact putSel_upk 7 hb_ rfl rfl rfl), Q_FB⟩
            refine steps_cons ?_ ?_
            · rintro b a w' ⟨ha, Q_FB⟩ hb_ hon hoff
              refine ⟨_, rfl, fun K hK => ?_⟩
              have e19 : a.tmps[19]? = some (.pointer (some ⟨b4, 0, none⟩)) := by rw [ha]; exact putSel_on (e := (7, 19, .pointer (some ⟨b4, 0, none⟩))) 7 rfl rfl (hon 7 (by kernel_rfl)) rfl
              have e18 : a.tmps[18]? = some (.bool true) := by rw [ha]; exact putSel_on (e := (6, 18, .bool true)) 6 rfl rfl (hon 6 (by kernel_rfl)) rfl
              replace ha := Aside0.mk ha
              have FB := Aside0.mk Q_FB
              have h0_ : w'.cell? ⟨b4, 0, none⟩ = some (.int .i64 no) := (FB.out.cell (p := ⟨b4, 0, none⟩) hb4).trans p0
              refine value_ (w1 := w') (v := .int .i64 no) (wanted_on rfl rfl rfl (e18.trans (by first | rfl | (simp [*]; done)))) rfl ?_ ?_
              · go_simp
                (try simp only [i64_w])
                try rfl
              refine hK.out _ _ ⟨(by rw [ha.out]; exact putSel_upk 8 hb_ rfl rfl rfl), Q_FB⟩
            refine steps_cons ?_ ?_
            · rintro b a w' ⟨ha, Q_FB⟩ hb_ hon hoff
              refine ⟨_, rfl, fun K hK => ?_⟩
              have e0 : a.tmps[0]? = some (.slice (some ⟨g, 0, none⟩) l.length c) := by rw [ha]; exact (putSel_off rfl).trans rfl
              have e18 : a.tmps[18]? = some (.bool true) := by rw [ha]; exact putSel_on (e := (6, 18, .bool true)) 6 rfl rfl (hon 6 (by kernel_rfl)) rfl
              replace ha := Aside0.mk ha
              have FB := Aside0.mk Q_FB
              refine value_ (w1 := w') (v := .slice (some ⟨g, 0, none⟩) l.length c) (wanted_on rfl rfl rfl (e18.trans (by first | rfl | (simp [*]; done)))) rfl ?_ ?_
              · go_simp
                (try simp only [i64_w])
                try rfl
              refine hK.out _ _ ⟨(by rw [ha.out]; exact putSel_upk 9 hb_ rfl rfl rfl), Q_FB⟩
            refine steps_cons ?_ ?_
            · rintro b a w' ⟨ha, Q_FB⟩ hb_ hon hoff
              refine ⟨_, rfl, fun K hK => ?_⟩
              have e3 : a.tmps[3]? = some (.int .i64 m) := by rw [ha]; exact (putSel_off rfl).trans rfl
              have e18 : a.tmps[18]? = some (.bool true) := by rw [ha]; exact putSel_on (e := (6, 18, .bool true)) 6 rfl rfl (hon 6 (by kernel_rfl)) rfl
              replace ha := Aside0.mk ha
              have FB := Aside0.mk Q_FB
              refine value_ (w1 := w') (v := .int .i64 m) (wanted_on rfl rfl rfl (e18.trans (by first | rfl | (simp [*]; done)))) rfl ?_ ?_
              · go_simp
                (try simp only [i64_w])
                try rfl
              refine hK.out _ _ ⟨(by rw [ha.out]; exact putSel_upk 10 hb_ rfl rfl rfl), Q_FB⟩
            refine steps_cons ?_ ?_
            · rintro b a w' ⟨ha, Q_FB⟩ hb_ hon hoff
              refine ⟨_, rfl, fun K hK => ?_⟩
              have e22 : a.tmps[22]? = some (.int .i64 m) := by rw [ha]; exact putSel_on (e := (10, 22, .int .i64 m)) 10 rfl rfl (hon 10 (by kernel_rfl)) rfl
              have e18 : a.tmps[18]? = some (.bool true) := by rw [ha]; exact putSel_on (e := (6, 18, .bool true)) 6 rfl rfl (hon 6 (by kernel_rfl)) rfl
              replace ha := Aside0.mk ha
              have FB := Aside0.mk Q_FB
              refine value_ (w1 := w') (v := .int .i64 (k : Int)) (wanted_on rfl rfl rfl (e18.trans (by first | rfl | (simp [*]; done)))) rfl ?_ ?_
              · go_simp
                (try simp only [i64_w])
                try rfl
              refine hK.out _ _ ⟨(by rw [ha.out]; exact putSel_upk 11 hb_ rfl rfl rfl), Q_FB⟩
            refine steps_cons ?_ ?_
            · rintro b a w' ⟨ha, Q_FB⟩ hb_ hon hoff
              refine ⟨_, rfl, fun K hK => ?_⟩
              have e21 : a.tmps[21]? = some (.slice (some ⟨g, 0, none⟩) l.length c) := by rw [ha]; exact putSel_on (e := (9, 21, .slice (some ⟨g, 0, none⟩) l.length c)) 9 rfl rfl (hon 9 (by kernel_rfl)) rfl
              have e23 : a.tmps[23]? = some (.int .i64 (k : Int)) := by rw [ha]; exact putSel_on (e := (11, 23, .int .i64 (k : Int))) 11 rfl rfl (hon 11 (by kernel_rfl)) rfl
              have e18 : a.tmps[18]? = some (.bool true) := by rw [ha]; exact putSel_on (e := (6, 18, .bool true)) 6 rfl rfl (hon 6 (by kernel_rfl)) rfl
              replace ha := Aside0.mk ha
              have FB := Aside0.mk Q_FB
              refine value_ (w1 := w') (v := .pointer (some ⟨g, k * 2, none⟩)) (wanted_on rfl rfl rfl (e18.trans (by first | rfl | (simp [*]; done)))) rfl ?_ ?_
              · go_simp
                (try simp only [i64_w])
                try rfl
              refine hK.out _ _ ⟨(by rw [ha.out]; exact putSel_upk 12 hb_ rfl rfl rfl), Q_FB⟩
            refine steps_cons ?_ ?_
            · rintro b a w' ⟨ha, Q_FB⟩ hb_ hon hoff
              refine ⟨_, rfl, fun K hK => ?_⟩
              have e24 : a.tmps[24]? = some (.pointer (some ⟨g, k * 2, none⟩)) := by rw [ha]; exact putSel_on (e := (12, 24, .pointer (some ⟨g, k * 2, none⟩))) 12 rfl rfl (hon 12 (by kernel_rfl)) rfl
              have e18 : a.tmps[18]? = some (.bool true) := by rw [ha]; exact putSel_on (e := (6, 18, .bool true)) 6 rfl rfl (hon 6 (by kernel_rfl)) rfl
              replace ha := Aside0.mk ha
              have FB := Aside0.mk Q_FB
              refine value_ (w1 := w') (v := .pointer (some ⟨g, k * 2, none⟩)) (wanted_on rfl rfl rfl (e18.trans (by first | rfl | (simp [*]; done)))) rfl ?_ ?_
              · go_simp
                (try simp only [i64_w])
                try rfl
              refine hK.out _ _ ⟨(by rw [ha.out]; exact putSel_upk 13 hb_ rfl rfl rfl), Q_FB⟩
            refine steps_cons ?_ ?_
            · rintro b a w' ⟨ha, Q_FB⟩ hb_ hon hoff
              refine ⟨_, rfl, fun K hK => ?_⟩
              have e25 : a.tmps[25]? = some (.pointer (some ⟨g, k * 2, none⟩)) := by rw [ha]; exact putSel_on (e := (13, 25, .pointer (some ⟨g, k * 2, none⟩))) 13 rfl rfl (hon 13 (by kernel_rfl)) rfl
              have e18 : a.tmps[18]? = some (.bool true) := by rw [ha]; exact putSel_on (e := (6, 18, .bool true)) 6 rfl rfl (hon 6 (by kernel_rfl)) rfl
              replace ha := Aside0.mk ha
              have FB := Aside0.mk Q_FB
              have h0_ : w'.cell? ⟨g, k * 2, none⟩ = some (.int .i64 prev) := (FB.out.cell (p := ⟨g, k * 2, none⟩) hgi).trans z0
              refine value_ (w1 := w') (v := .int .i64 prev) (wanted_on rfl rfl rfl (e18.trans (by first | rfl | (simp [*]; done)))) rfl ?_ ?_
              · go_simp
                (try simp only [i64_w])
                try rfl
              refine hK.out _ _ ⟨(by rw [ha.out]; exact putSel_upk 14 hb_ rfl rfl rfl), Q_FB⟩
            refine steps_cons ?_ ?_
            · rintro b a w' ⟨ha, Q_FB⟩ hb_ hon hoff
              refine ⟨_, rfl, fun K hK => ?_⟩
              have e20 : a.tmps[20]? = some (.int .i64 no) := by rw [ha]; exact putSel_on (e := (8, 20, .int .i64 no)) 8 rfl rfl (hon 8 (by kernel_rfl)) rfl
              have e26 : a.tmps[26]? = some (.int .i64 prev) := by rw [ha]; exact putSel_on (e := (14, 26, .int .i64 prev)) 14 rfl rfl (hon 14 (by kernel_rfl)) rfl
              have e18 : a.tmps[18]? = some (.bool true) := by rw [ha]; exact putSel_on (e := (6, 18, .bool true)) 6 rfl rfl (hon 6 (by kernel_rfl)) rfl
              replace ha := Aside0.mk ha
              have FB := Aside0.mk Q_FB
              refine value_ (w1 := w') (v := .bool false) (wanted_on rfl rfl rfl (e18.trans (by first | rfl | (simp [*]; done)))) rfl ?_ ?_
              · go_simp
                (try simp only [i64_w])
                try rfl
              refine hK.out _ _ ⟨(by rw [ha.out]; exact putSel_upk 15 hb_ rfl rfl rfl), Q_FB⟩
            refine steps_cons ?_ ?_
            · rintro b a w' ⟨ha, Q_FB⟩ hb_ hon hoff
              refine ⟨_, rfl, fun K hK => ?_⟩
              have e18 : a.tmps[18]? = some (.bool true) := by rw [ha]; exact putSel_on (e := (6, 18, .bool true)) 6 rfl rfl (hon 6 (by kernel_rfl)) rfl
              have e27 : a.tmps[27]? = some (.bool false) := by rw [ha]; exact putSel_on (e := (15, 27, .bool false)) 15 rfl rfl (hon 15 (by kernel_rfl)) rfl
              have e15 : a.tmps[15]? = some (.bool false) := by rw [ha]; exact putSel_on (e := (3, 15, .bool false)) 3 rfl rfl (hon 3 (by kernel_rfl)) rfl
              replace ha := Aside0.mk ha
              have FB := Aside0.mk Q_FB
              refine value_ (w1 := w') (v := .bool false) (wanted_on rfl rfl rfl (e15.trans (by first | rfl | (simp [*]; done)))) rfl ?_ ?_
              · go_simp
                (try simp only [i64_w])
                try rfl
              refine hK.out _ _ ⟨(by rw [ha.out]; exact putSel_upk 16 hb_ rfl rfl rfl), Q_FB⟩
            refine steps_cons ?_ ?_
            · rintro b a w' ⟨ha, Q_FB⟩ hb_ hon hoff
              refine ⟨_, rfl, fun K hK => ?_⟩
              have e15 : a.tmps[15]? = some (.bool false) := by rw [ha]; exact putSel_on (e := (3, 15, .bool false)) 3 rfl rfl (hon 3 (by kernel_rfl)) rfl
              have e28 : a.tmps[28]? = some (.bool false) := by rw [ha]; exact putSel_on (e := (16, 28, .bool false)) 16 rfl rfl (hon 16 (by kernel_rfl)) rfl
              replace ha := Aside0.mk ha
              have FB := Aside0.mk Q_FB
              refine value_ (w1 := w') (v := .bool false) (by rfl) rfl ?_ ?_
              · go_simp
                (try simp only [i64_w])
                try rfl
              refine hK.out _ _ ⟨(by rw [ha.out]; exact putSel_upk 17 hb_ rfl rfl rfl), Q_FB⟩
            exact steps_nil
          · rintro b a w' hall ⟨ha, Q_FB⟩
            clear FB
            have hb0_ := hall 0 (by kernel_rfl)
            have hb1_ := hall 1 (by kernel_rfl)
            have hb2_ := hall 2 (by kernel_rfl)
            have hb3_ := hall 3 (by kernel_rfl)
            have hb4_ := hall 4 (by kernel_rfl)
            have hb5_ := hall 5 (by kernel_rfl)
            have hb6_ := hall 6 (by kernel_rfl)
            have hb7_ := hall 7 (by kernel_rfl)
            have hb8_ := hall 8 (by kernel_rfl)
            have hb9_ := hall 9 (by kernel_rfl)
            have hb10_ := hall 10 (by kernel_rfl)
            have hb11_ := hall 11 (by kernel_rfl)
            have hb12_ := hall 12 (by kernel_rfl)
            have hb13_ := hall 13 (by kernel_rfl)
            have hb14_ := hall 14 (by kernel_rfl)
            have hb15_ := hall 15 (by kernel_rfl)
            have hb16_ := hall 16 (by kernel_rfl)
            have hb17_ := hall 17 (by kernel_rfl)
            subst ha
            simp only [putSel, hb0_, hb1_, hb2_, hb3_, hb4_, hb5_, hb6_, hb7_, hb8_, hb9_, hb10_, hb11_, hb12_, hb13_, hb14_, hb15_, hb16_, hb17_, if_true, Act.put, List.setIfInBounds_toArray, List.set_cons_zero, List.set_cons_succ]
            have FB := Aside0.mk Q_FB
            clear Q_FB
            clear hall hb0_ hb1_ hb2_ hb3_ hb4_ hb5_ hb6_ hb7_ hb8_ hb9_ hb10_ hb11_ hb12_ hb13_ hb14_ hb15_ hb16_ hb17_
            go_wp2_with fail
            go_meet
            exact ⟨rfl, FB⟩
      case rest =>
        obtain ⟨rfl, HBx⟩ := hcut
        go_wp2
        go_roundw
        case rel => exact ⟨m + 1, by omega, by go_num, ⟨HB4.out.trans (HBx.out.mono HB4.out.size)⟩⟩
        case measure => (simp [intOf]; try omega)
    · obtain rfl : m = l.length := by omega
      go_wp2
      go_ret
      exact ⟨ret_bool (by simp <;> omega), HB.out⟩
end Go.Proofs.Ytfbndhhogpacmaa
/-! file.newShelf: a book's lines by their numbers. -/
namespace Go.Proofs.Ytfbndhhogpacmaa
open Go.RowKit Go.Shelf
open Go.Proofs.YtfbndhhogpacmaaW.PrintWords Go.Proofs.Ytfbndhhogpacmaa.T
set_option linter.unusedVariables false
set_option linter.unusedSimpArgs false
/-- The lines by their numbers: the text (none is empty), and whether there is one. -/
abbrev ShF := Nat → ByteArray × Bool
def sh0 : ShF := fun _ => (⟨#[]⟩, false)
def shPut (f : ShF) (x : S48) : ShF := fun i => if i = x.f0.toNat then (x.f1, true) else f i
def shelfOf (l : List S48) : ShF := l.foldl shPut sh0
theorem shelfOf_succ (l : List S48) (k : Nat) (hk : k < l.length) : shelfOf (l.take (k + 1)) = shPut (shelfOf (l.take k)) l[k] := by
  unfold shelfOf
  rw [List.take_succ_eq_append_getElem hk, List.foldl_append]
  rfl
/-- A block of a shelf's cells. -/
structure ShC (cs : Array Value) (f : ShF) : Prop where
  sz : cs.size = 200
  tx : ∀ i < 100, cs[i * 2]? = some (.string (f i).1)
  is : ∀ i < 100, cs[i * 2 + 1]? = some (.bool (f i).2)
theorem ShC.put {cs : Array Value} {f : ShF} (h : ShC cs f) (x : S48) (h0 : 0 ≤ x.f0) (h1 : x.f0 ≤ 99) :
    ShC ((cs.setIfInBounds (x.f0.toNat * 2) (.string x.f1)).setIfInBounds (x.f0.toNat * 2 + 1) (.bool true)) (shPut f x) := by
  obtain ⟨hs, ht, hi⟩ := h
  generalize hk : x.f0.toNat = k
  have hk1 : k < 100 := by omega
  refine ⟨by simp [hs], fun i hi1 => ?_, fun i hi1 => ?_⟩
  · rw [Array.getElem?_setIfInBounds_ne (by omega), shPut, hk]
    by_cases hik : i = k
    · subst hik
      rw [Array.getElem?_setIfInBounds_self_of_lt (by omega), if_pos rfl]
    · rw [Array.getElem?_setIfInBounds_ne (by omega), if_neg hik, ht i hi1]
  · rw [shPut, hk]
    by_cases hik : i = k
    · subst hik
      rw [Array.getElem?_setIfInBounds_self_of_lt (by simp; omega), if_pos rfl]
    · rw [Array.getElem?_setIfInBounds_ne (by omega), Array.getElem?_setIfInBounds_ne (by omega), if_neg hik, hi i hi1]
theorem zero_tx : (List.range 100).map (fun i => Try.zeroCells110[i * 2]?) = List.replicate 100 (some (.string ⟨#[]⟩)) := by kernel_rfl
theorem zero_is : (List.range 100).map (fun i => Try.zeroCells110[i * 2 + 1]?) = List.replicate 100 (some (.bool false)) := by kernel_rfl
theorem ShC.zero : ShC Try.zeroCells110 sh0 := by
  refine ⟨by kernel_rfl, fun i hi => ?_, fun i hi => ?_⟩
  · have h := congrArg (fun l => l[i]?) zero_tx
    simp only [List.getElem?_map, List.getElem?_range hi, List.getElem?_replicate, if_pos hi, Option.map_some] at h
    exact Option.some.inj h
  · have h := congrArg (fun l => l[i]?) zero_is
    simp only [List.getElem?_map, List.getElem?_range hi, List.getElem?_replicate, if_pos hi, Option.map_some] at h
    exact Option.some.inj h
set_option maxRecDepth 100000 in
set_option maxHeartbeats 4000000 in
theorem newShelf_ok (A : Option Addr) (c : Nat) (hA : Plain A) (l : List S48) (ok : OkBook l) (w : World) (hC : k48.C w A l.length l) :
    Calls Try.prog 21 #[.slice A l.length c] w fun e w' => ∃ (g : Nat) (cs : Array Value), e = .returned (.pointer (some ⟨g, 0, none⟩)) ∧ w.heap.size ≤ g ∧ w'.heap[g]? = some (.cells cs 110 (0, 0)) ∧ ShC cs (shelfOf l) ∧ Below w.heap.size w w' := by
  obtain ⟨ln, up, sz⟩ := ok
  have HLN := Aside0.mk ln
  have HC := Aside0.mk hC
  clear ln up hC
  go_enter Try.func21, Try.ntmps21
  go_wp2_with fail
  have BK0 := Aside0.mk (blk_new w (.cells Try.zeroCells110 110))
  have HB0 := Aside0.mk (below_alloc (Below.refl w.heap.size w) (.cells Try.zeroCells110 110))
  generalize w.alloc (.cells Try.zeroCells110 110) = W0 at BK0 HB0 ⊢
  have HG : Aside0 (w.heap.size ≤ w.heap.size) := ⟨Nat.le_refl _⟩
  have h3 : shelfOf (l.take 0) = sh0 := rfl
  go_loopw [5, 10] (fun _ s10 wr => ∃ (m : Nat) (cs : Array Value), m ≤ l.length ∧ s10 = .int .i64 m ∧ Aside0 (wr.heap[w.heap.size]? = some (.cells cs 110 (0, 0))) ∧ Aside0 (ShC cs (shelfOf (l.take m))) ∧ Aside0 (Below w.heap.size w wr)) (fun _ s10 _ => l.length - (intOf s10).toNat)
  case atStart => exact ⟨0, _, Nat.zero_le _, rfl, BK0, ⟨h3 ▸ ShC.zero⟩, HB0⟩
  case round =>
    clear BK0 HB0 h3
    obtain ⟨m, cs, hm, rfl, BK, HS, HB⟩ := hrel
    rename World => wo
    by_cases hlt : m < l.length
    · have hltz : (m : Int) < (l.length : Int) := by omega
      have hm0 : (0 : Int) ≤ (m : Int) := by omega
      obtain ⟨ga, rfl, x0, x1⟩ := at84 hA (Kd.C_below HC.out HB.out) m hlt
      have hx := HLN.out l[m] (List.getElem_mem hlt)
      have HT := Aside0.mk (shelfOf_succ l m hlt)
      generalize l[m] = x at x0 x1 hx HT
      have HSN := Aside0.mk (HS.out.put x hx.no1 hx.no2)
      rw [← HT.out] at HSN
      have hx1 := hx.no1
      have hx2 := hx.no2
      clear hx HT
      obtain ⟨no, tx⟩ := x
      simp only at x0 x1 hx1 hx2 HSN
      have hx3 : no < 100 := by omega
      go_wp2_with fail
      have P0 : (wo.alloc (.cells #[.int .i64 no, .string tx] 48)).cell? ⟨wo.heap.size, 0, none⟩ = some (.int .i64 no) := (blk_cell (blk_new wo _) 0).trans rfl
      have P1 : (wo.alloc (.cells #[.int .i64 no, .string tx] 48)).cell? ⟨wo.heap.size, 1, none⟩ = some (.string tx) := (blk_cell (blk_new wo _) 1).trans rfl
      have HB4 := Aside0.mk (below_alloc HB.out (.cells #[.int .i64 no, .string tx] 48))
      have BK4 := Aside0.mk (blk_alloc BK.out (.cells #[.int .i64 no, .string tx] 48))
      have hgb : wo.heap.size ≠ w.heap.size := by have := blk_lt BK.out; omega
      generalize wo.alloc (.cells #[.int .i64 no, .string tx] 48) = wi at P0 P1 HB4 BK4 ⊢
      generalize wo.heap.size = b4 at P0 P1 hgb ⊢
      have hk1 : no.toNat < 100 := by omega
      have q0 : wi.cell? ⟨w.heap.size, no.toNat * 2, none⟩ = some (.string (shelfOf (l.take m) no.toNat).1) := (blk_cell BK4.out _).trans (HS.out.tx no.toNat hk1)
      have q1 : wi.cell? ⟨w.heap.size, no.toNat * 2 + 1, none⟩ = some (.bool (shelfOf (l.take m) no.toNat).2) := (blk_cell BK4.out _).trans (HS.out.is no.toNat hk1)
      have f0 := blk_frozen BK4.out (no.toNat * 2)
      have f1 := blk_frozen BK4.out (no.toNat * 2 + 1)
      have BKN := Aside0.mk (blk_put (blk_put BK4.out (no.toNat * 2) (.string tx) rfl) (no.toNat * 2 + 1) (.bool true) rfl)
      have HBN := Aside0.mk (below_set (g := w.heap.size) (j := no.toNat * 2 + 1) (v := .bool true) (below_set (g := w.heap.size) (j := no.toNat * 2) (v := .string tx) HB4.out (Nat.le_refl _)) (Nat.le_refl _))
      clear BK BK4 HB HB4 x0 x1 hltz hm0 HS
      go_region
      clear f0 f1 q0 q1 P0 P1
      have BKD := Aside0.mk (blk_drew BKN.out)
      have HBD := Aside0.mk (below_drew HBN.out)
      clear BKN HBN
      generalize ((wi.setCell ⟨w.heap.size, no.toNat * 2, none⟩ (.string tx)).setCell ⟨w.heap.size, no.toNat * 2 + 1, none⟩ (.bool true)).drew = wz at BKD HBD ⊢
      go_wp2
      go_roundw
      case rel => exact ⟨m + 1, _, by omega, by go_num, BKD, HSN, HBD⟩
      case measure => simp [intOf]; omega
    · obtain rfl : m = l.length := by omega
      have h1 := HS.out
      rw [List.take_length] at h1
      go_wp2
      go_ret
      exact ⟨_, cs, rfl, Nat.le_refl _, BK.out, h1, HB.out⟩
end Go.Proofs.Ytfbndhhogpacmaa
