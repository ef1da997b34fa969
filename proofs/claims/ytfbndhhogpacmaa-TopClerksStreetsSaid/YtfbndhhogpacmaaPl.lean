import Derived.Test.YtfbndhhogpacmaaPk
/-! street.newBook where names clash. Written by made15.py out of C10. -/
namespace Go.Proofs.Ytfbndhhogpacmaa
open Go.RowKit Go.Shelf
open Go.Proofs.YtfbndhhogpacmaaW.PrintWords Go.Proofs.YtfbndhhogpacmaaW.PrintLast Go.Proofs.Ytfbndhhogpacmaa.T
set_option linter.unusedVariables false
set_option linter.unusedSimpArgs false
theorem nodup_twins {α : Type} [DecidableEq α] (z : α) (xs : List α) (h : twins z xs = []) : xs.Nodup := by
  unfold List.Nodup
  rw [List.pairwise_iff_getElem]
  intro i j hi hj hij e
  unfold twins twK at h
  rw [List.filter_eq_nil_iff] at h
  have h2 := h j (List.mem_range.2 hj)
  rw [getD_at _ _ _ hj, decide_eq_true_eq] at h2
  apply h2
  have e1 : cnt xs xs[j] = cnt (xs.take j) xs[j] + cnt (xs.drop j) xs[j] := by rw [← cnt_append, List.take_append_drop]
  have e2 : 0 < cnt (xs.take j) xs[j] := by
    unfold cnt
    rw [List.countP_pos_iff]
    refine ⟨xs[i], ?_, by simpa using e⟩
    rw [List.mem_take_iff_getElem]
    exact ⟨i, by omega, rfl⟩
  have e3 : 0 < cnt (xs.drop j) xs[j] := by
    unfold cnt
    rw [List.countP_pos_iff]
    refine ⟨xs[j], ?_, by simp⟩
    rw [List.drop_eq_getElem_cons hj]
    exact List.mem_cons_self
  omega
def clash.T22 : Bool × List (List Nat × List Nat) := (true, [([], []), ([], []), ([], []), ([2], [2]), ([0, 3, 0], [0]), ([1, 4, 0, 1, 4], [1]), ([3, 5, 0, 1, 2, 3, 4, 5], [2, 3])])
def clash.B22 : List Nat := [0, 0, 0, 4, 13, 31, 63]
theorem clash.tab22 : rtab .any (opsOf Try.f15 22) = clash.T22 := by kernel_rfl
theorem clash.bits22 : waitsOk clash.T22.2 clash.B22 = true := by kernel_rfl
set_option maxRecDepth 100000 in
set_option maxHeartbeats 4000000 in
theorem newBook_clash (A1 A2 : Option Addr) (k1 k2 : Nat) (first : List ByteArray) (chg : List S32) (w : World) (h1 : Kd.string.C w A1 first.length first) (h2 : k32.C w A2 chg.length chg) (ok : OkTown first chg) (hcl : ∃ k, k ≤ chg.length ∧ ¬ (namesK first chg k).Nodup) :
    Calls Try.prog 15 #[.agg #[.slice A1 first.length k1, .slice A2 chg.length k2]] w fun e w' => ∃ (x : Value) (at_ : Int) (g n c : Nat), e = .returned (.tuple #[x, .int .i64 at_, .slice (some ⟨g, 0, none⟩) n c]) ∧ Below w.heap.size w w' := by
  have hn1 := ok.n1
  have hn2 := ok.n2
  have hc1 := ok.c1
  have hq := eqlNil_int
  have hq2 := neqNil_int
  have HOK := Aside0.mk ok
  have HCL := Aside0.mk hcl
  have H1 := Aside0.mk h1
  have H2 := Aside0.mk h2
  clear ok hcl h1 h2
  go_enter Try.func15, Try.ntmps15
  go_wp2_with fail
  have K2 : ((w.alloc (.cells #[.slice A1 first.length k1, .slice A2 chg.length k2] 27)).alloc (.cells #[.slice A1 first.length k1, .slice A2 chg.length k2, .slice none 0 0] 57)).heap[w.heap.size + 1]? = some (.cells #[.slice A1 first.length k1, .slice A2 chg.length k2, .slice none 0 0] 57 (0, 0)) := by
    have := blk_new (w.alloc (.cells #[.slice A1 first.length k1, .slice A2 chg.length k2] 27)) (.cells #[.slice A1 first.length k1, .slice A2 chg.length k2, .slice none 0 0] 57)
    simpa using this
  have K1 := blk_alloc (blk_new w (.cells #[.slice A1 first.length k1, .slice A2 chg.length k2] 27)) (.cells #[.slice A1 first.length k1, .slice A2 chg.length k2, .slice none 0 0] 57)
  have HB0 := below_alloc (below_alloc (Below.refl w.heap.size w) (.cells #[.slice A1 first.length k1, .slice A2 chg.length k2] 27)) (.cells #[.slice A1 first.length k1, .slice A2 chg.length k2, .slice none 0 0] 57)
  generalize (w.alloc (.cells #[.slice A1 first.length k1, .slice A2 chg.length k2] 27)).alloc (.cells #[.slice A1 first.length k1, .slice A2 chg.length k2, .slice none 0 0] 57) = W0 at K1 K2 HB0 ⊢
  have BK1 := Aside0.mk K1
  have BK2 := Aside0.mk K2
  have HB := Aside0.mk HB0
  clear K1 K2 HB0
  refine (callsIn_wide.1 (values_in Fence.wide 1 trivial rfl A2 chg.length k2 W0)).mono ?_
  rintro e w1 ⟨rfl, rfl⟩
  go_wp2_with fail
  refine (sortedStable_up A2 k2 chg w _ H2.out (below_alloc HB.out _) W0.heap.size (by simp) (by simp) hc1 HOK.out.up).mono ?_
  rintro e w2 ⟨A5, c5, rfl, hC5, hb2⟩
  have HC5 := Aside0.mk (Kd.R_lower hC5 (base' := w.heap.size) (by simp; have := HB.out.size; omega))
  replace BK1 := Aside0.mk (blk_below (blk_alloc BK1.out _) hb2)
  replace BK2 := Aside0.mk (blk_below (blk_alloc BK2.out _) hb2)
  replace HB := Aside0.mk (below_step (below_alloc HB.out _) hb2)
  have h02 := HB.out.size
  clear hC5 hb2
  have q1 : w2.cell? ⟨w.heap.size, 0, none⟩ = some (.slice A1 first.length k1) := (blk_cell BK1.out 0).trans rfl
  go_wp2_with fail
  refine (Clone_str A1 k1 first w2 (Kd.C_below H1.out HB.out) (by intro h; rw [h] at hn1; simp at hn1) (by omega)).mono ?_
  rintro e w3 ⟨v, rfl, hv, hb3⟩
  have HV := Aside0.mk hv
  replace BK1 := Aside0.mk (blk_below BK1.out hb3)
  replace BK2 := Aside0.mk (blk_below BK2.out hb3)
  replace HB := Aside0.mk (below_step HB.out hb3)
  replace HC5 := Aside0.mk (Kd.R_below HC5.out hb3)
  obtain ⟨A6, c6, rfl, hl6, hC6⟩ := Kd.R_reads hv
  have HC6 := Aside0.mk hC6
  have h23 := hb3.size
  clear hv hb3 hC6 q1
  have q2 : w3.cell? ⟨w.heap.size + 1, 2, none⟩ = some (.slice none 0 0) := (blk_cell BK2.out 2).trans rfl
  have q3 := blk_frozen BK2.out 2
  have hw13 : w.heap.size + 1 < w3.heap.size := blk_lt BK2.out
  replace HV := Aside0.mk (Kd.R_lower (base' := w.heap.size) HV.out h02)
  have HV4 := Aside0.mk (Kd.R_set HV.out BK2.out (by decide) 2 (.slice (some ⟨w3.heap.size, 0, none⟩) 1 1))
  have HC54 := Aside0.mk (Kd.R_set HC5.out BK2.out (by decide) 2 (.slice (some ⟨w3.heap.size, 0, none⟩) 1 1))
  have BK14 := Aside0.mk (blk_far BK1.out (p := ⟨w.heap.size + 1, 2, none⟩) (by simp) (.slice (some ⟨w3.heap.size, 0, none⟩) 1 1))
  have BK24 := Aside0.mk (blk_put BK2.out 2 (.slice (some ⟨w3.heap.size, 0, none⟩) 1 1) rfl)
  have HB4 := Aside0.mk (below_set (g := w.heap.size + 1) (j := 2) (v := .slice (some ⟨w3.heap.size, 0, none⟩) 1 1) HB.out (by omega))
  have hsz : (w3.setCell ⟨w.heap.size + 1, 2, none⟩ (.slice (some ⟨w3.heap.size, 0, none⟩) 1 1)).heap.size = w3.heap.size := by simp
  go_wp2
  generalize w3.setCell ⟨w.heap.size + 1, 2, none⟩ (.slice (some ⟨w3.heap.size, 0, none⟩) 1 1) = W4 at HV4 HC54 BK14 BK24 HB4 hsz ⊢
  rw [← hsz] at BK24
  have HS := Aside0.mk (S_one k100 100 w.heap.size W4 ⟨0, first⟩ [.int .i64 0, .slice A6 first.length c6] _ (k100_mkM W4 w.heap.size (fun _ => True) ⟨0, first⟩ HV4.out) rfl (HB4.out.size))
  replace BK1 := Aside0.mk (blk_alloc BK14.out (.cells #[.int .i64 0, .slice A6 first.length c6] 100))
  replace BK2 := Aside0.mk (blk_alloc BK24.out (.cells #[.int .i64 0, .slice A6 first.length c6] 100))
  replace HC5 := Aside0.mk (Kd.R_below HC54.out (below_alloc (Below.refl _ _) (.cells #[.int .i64 0, .slice A6 first.length c6] 100)))
  replace HV := Aside0.mk (Kd.R_below HV4.out (below_alloc (Below.refl _ _) (.cells #[.int .i64 0, .slice A6 first.length c6] 100)))
  replace HB := Aside0.mk (below_alloc HB4.out (.cells #[.int .i64 0, .slice A6 first.length c6] 100))
  clear HV4 HC54 BK14 BK24 HB4 HC6 q2 q3
  generalize W4.alloc (.cells #[.int .i64 0, .slice A6 first.length c6] 100) = W5 at HV HC5 BK1 BK2 HB HS ⊢
  rw [hsz] at HS BK2
  have hA5 : chg.length = 0 ∨ ∃ ad, A5 = some ad := by
    by_cases h : chg = []
    · exact .inl (by rw [h]; rfl)
    · exact .inr (C_any (Kd.R_reads' HC5.out).2.2 h)
  have hc5 := (Kd.R_reads' HC5.out).2.1
  go_loopw [4, 5, 6, 7, 8, 10, 66] (fun s4 s5 s6 _ _ _ _ wr => ∃ k : Nat, k ≤ chg.length ∧ Aside0 (∀ j, j ≤ k → (namesK first chg j).Nodup) ∧ s4 = .slice none 0 0 ∧ (∃ A c, s5 = .slice A (chg.length - k) c ∧ CutAt A5 k (chg.length - k) A c) ∧ (∃ g6 c6, s6 = .slice (some ⟨g6, 0, none⟩) first.length c6 ∧ Aside0 (Kd.string.R 9 wr w.heap.size (fun _ => True) (.slice (some ⟨g6, 0, none⟩) first.length c6) (namesK first chg k)))
      ∧ Aside0 (k32.R 32 wr w.heap.size (fun _ => True) (.slice A5 chg.length c5) chg)
      ∧ (∃ g7 c7, Aside0 (wr.heap[w.heap.size + 1]? = some (.cells #[.slice A1 first.length k1, .slice A2 chg.length k2, .slice (some ⟨g7, 0, none⟩) (k + 1) c7] 57 (0, 0))) ∧ Aside0 (Kd.S k100 100 wr w.heap.size (fun _ => True) (.slice (some ⟨g7, 0, none⟩) (k + 1) c7) (bookPages first chg k)))
      ∧ Aside0 (Below w.heap.size w wr)) (fun _ s5 _ _ _ _ _ _ => lenV s5)
  case atStart =>
    obtain ⟨g6, c6', e6, _⟩ := Kd.R_form HV.out (by omega)
    injection e6 with e6 _ e6'
    subst e6 e6'
    exact ⟨0, Nat.zero_le _, ⟨fun j hj => by rw [Nat.le_zero.1 hj]; exact HOK.out.nd⟩, rfl, ⟨A5, c5, rfl, CutAt.first A5 _ _ hc5 hA5⟩, ⟨g6, _, rfl, HV⟩, HC5, ⟨_, _, BK2, HS⟩, HB⟩
  case round =>
    clear HV HC5 BK2 HS HB BK1
    obtain ⟨k, hk, HNC, rfl, ⟨A, c, rfl, hcut⟩, ⟨g6, c6, rfl, HV⟩, HC5, ⟨g7, c7, BK2, HS⟩, HB⟩ := hrel
    rename World => wo
    by_cases hlt : k < chg.length
    · obtain ⟨m, hm⟩ : ∃ m, chg.length - k = m + 1 := ⟨chg.length - k - 1, by omega⟩
      rw [hm] at hcut ⊢
      have hcut2 := hcut.next
      obtain ⟨ad, eA5, eA⟩ : ∃ ad, A5 = some ad ∧ A = some (ad.add (k * 3)) := by
        rcases hcut.2 with h | h
        · omega
        · exact h
      have hcm := hcut.1
      subst eA5
      have hnk := namesK_succ first chg k hlt
      have hbk := bookPages_succ first chg k hlt
      have hokc := HOK.out.ch chg[k] (List.getElem_mem hlt)
      have hupc := fun (h : k + 1 < chg.length) => List.pairwise_iff_getElem.1 HOK.out.up k (k + 1) hlt h (by omega)
      obtain ⟨ad', e', hx0, hx1, hx2⟩ := at_T32 (Kd.R_reads' HC5.out).2.2 (k : Int) (by omega) (by omega)
      obtain rfl : ad = ad' := by injection e'
      have hrd : rd_T32 chg (k : Int) = chg[k] := getD_at chg k _ hlt
      simp only [hrd, Int.toNat_natCast] at hx0 hx1 hx2
      clear hrd e'
      generalize hck : chg[k] = x at hnk hbk hokc hupc hx0 hx1 hx2
      obtain ⟨a, st, nm⟩ := x
      simp only at hnk hbk hx0 hx1 hx2 hupc
      have HNK := Aside0.mk hnk
      have HBK := Aside0.mk hbk
      have hst0 := hokc.st1
      have hst1 := hokc.st2
      simp only at hst0 hst1
      clear hnk hbk hokc
      have HCUT2 := Aside0.mk hcut2
      have HUPC := Aside0.mk hupc
      clear hcut hcut2 hupc
      have q10 : (0 : Int) < ((m + 1 : Nat) : Int) := by omega
      subst eA
      -- at := changes[0].At; names = slices.Clone(names)
      go_wp2_with fail
      have hcl := Clone_str (some ⟨g6, 0, none⟩) c6 (namesK first chg k) wo (Kd.R_reads' HV.out).2.2 (by intro h; have := namesK_length first chg k; rw [h] at this; simp at this; omega) (by rw [namesK_length]; omega)
      rw [namesK_length first chg k] at hcl
      refine hcl.mono ?_
      clear hcl
      rintro e w4 ⟨v, rfl, hv4, hb4⟩
      obtain ⟨g, cg, rfl, hg0, hg1, cells, hgc⟩ := Kd.R_form hv4 (by rw [namesK_length]; omega)
      rw [namesK_length first chg k] at hv4 ⊢
      have HV4 := Aside0.mk hv4
      have HB4 := Aside0.mk hb4
      have y0 : w4.cell? (ad.add (k * 3)) = some (.int .i64 a) := (hb4.cell (World.block_lt_of_cell? _ _ hx0)).trans hx0
      have y1 : w4.cell? ⟨(ad.add (k * 3)).block, (ad.add (k * 3)).off + 1, none⟩ = some (.int .i64 st) := (hb4.cell (p := ⟨(ad.add (k * 3)).block, (ad.add (k * 3)).off + 1, none⟩) (World.block_lt_of_cell? _ _ hx1)).trans hx1
      have y2 : w4.cell? ⟨(ad.add (k * 3)).block, (ad.add (k * 3)).off + 2, none⟩ = some (.string nm) := (hb4.cell (p := ⟨(ad.add (k * 3)).block, (ad.add (k * 3)).off + 2, none⟩) (World.block_lt_of_cell? _ _ hx2)).trans hx2
      have hadb : (ad.add (k * 3)).block < wo.heap.size := World.block_lt_of_cell? _ _ hx0
      clear hv4 hb4
      obtain ⟨hc6a, hc6b⟩ := Kd.R_celln ByteArray.empty HV4.out st hst0 hst1
      have HPUT := Aside0.mk (Kd.R_putg HV4.out st nm)
      obtain ⟨A', c', hcut1, hcut3⟩ : ∃ A' c', (∀ W : World, (Instr.slice 25 (.slice (some (ad.add (k * 3))) (m + 1) c) (some (.int .i64 1)) none none).run Try.prog W = .ok (.slice A' m c') W) ∧ CutAt (some ad) (k + 1) m A' c' := ⟨_, _, fun W => cut1 (some (ad.add (k * 3))) (m + 1) c (by omega) W, HCUT2.out⟩
      have HCUT3 := Aside0.mk hcut3
      clear hcut3
      have hlv1 : lenV (.slice (some (ad.add (k * 3))) (m + 1) c) = m + 1 := rfl
      go_wp2
      go_loopw [5, 8] (fun s5 s8 wi => (s5 = .slice (some (ad.add (k * 3))) (m + 1) c ∧ s8 = .slice none 0 0 ∧ wi = w4) ∨ (∃ A' c' g8 c8, s5 = .slice A' m c' ∧ CutAt (some ad) (k + 1) m A' c' ∧ s8 = .slice (some ⟨g8, 0, none⟩) 1 c8 ∧ Aside0 ((Kd.int .i64).R 3 wi wo.heap.size (fun _ => True) (.slice (some ⟨g8, 0, none⟩) 1 c8) [st]) ∧ Aside0 (Kd.string.R 9 wi wo.heap.size (fun _ => True) (.slice (some ⟨g, 0, none⟩) first.length cg) (namesK first chg (k + 1))) ∧ Aside0 (Below wo.heap.size wo wi))) (fun s5 _ _ => lenV s5)
      case atStart => exact .inl ⟨rfl, rfl, rfl⟩
      case round =>
        rcases hrel with ⟨rfl, rfl, hwi⟩ | ⟨A', c', g8, c8, rfl, hcut', rfl, HV8, HV9, HB5⟩
        · rw [hwi]
          clear hwi
          go_wp2_with fail
          go_region
          have HV6 := Aside0.mk (Kd.R_drew HPUT.out.1)
          have HB6 : Aside0 (Below wo.heap.size wo (w4.setCell ⟨g, st.toNat, none⟩ (.string nm)).drew) := ⟨below_drew (below_set HB4.out hg0)⟩
          rw [← HNK.out] at HV6
          generalize (w4.setCell ⟨g, st.toNat, none⟩ (.string nm)).drew = w6 at HV6 HB6 ⊢
          clear y0 y1 y2 hc6a hc6b HPUT HV4
          have y1 : w6.cell? ⟨(ad.add (k * 3)).block, (ad.add (k * 3)).off + 1, none⟩ = some (.int .i64 st) := (HB6.out.cell (p := ⟨(ad.add (k * 3)).block, (ad.add (k * 3)).off + 1, none⟩) hadb).trans hx1
          have h60 := HB6.out.size
          go_wp2_with (at_builtin; refine Kd.R_append (Kd.int .i64) (w0 := wo) wo.heap.size rfl (.tmp 54) (.tmp 59) 34 3 (.int .i64 0) 8 rfl Try.underlying34 infoInt rfl (by decide) (by decide) (.slice none 0 0) [] st [.int .i64 st] (fun _ => True) (fun _ => False) rfl rfl rfl (fun _ hk => hk.elim) (fun _ _ => trivial) (Kd.R_nil _ _ _ _ _) HB6.out h60 (by simp) ?_; intro v1 w7 hv1 hb1 hg1 _; have HV7 := Aside0.mk (Kd.R_grown HV6.out hg1 (fun _ _ => by simp [Value.ownBlock])); have HV8 := Aside0.mk hv1; have HB7 := Aside0.mk hb1; clear hv1 hb1 hg1)
          obtain ⟨g8, c8, rfl, _⟩ := Kd.R_form HV8.out (by simp)
          go_roundw
          case rel => exact .inr ⟨A', c', g8, c8, rfl, HCUT3.out, rfl, HV8, HV7, HB7⟩
          case measure => show m < m + 1; omega
        · clear y0 y1 y2 hc6a hc6b HPUT HV4 hcut1 HCUT3
          have hcase : ¬ (0 : Int) < (m : Int) ∨ (0 : Int) < (m : Int) := by omega
          rcases hcase with hpos | hpos
          all_goals first
            | (have hneg : ¬ (0 : Int) < (m : Int) := hpos
               go_wp2_with fail)
            | (obtain ⟨ad2, e2, rfl⟩ : ∃ ad2, some ad = some ad2 ∧ A' = some (ad2.add ((k + 1) * 3)) := by
                 rcases hcut'.2 with h | h
                 · omega
                 · exact h
               obtain rfl : ad = ad2 := by injection e2
               have hlt2 : k + 1 < chg.length := by omega
               have hup2 := HUPC.out hlt2
               obtain ⟨ad', e', hz0, _, _⟩ := at_T32 (Kd.C_below (Kd.R_reads' HC5.out).2.2 HB5.out) ((k + 1 : Nat) : Int) (by omega) (by omega)
               obtain rfl : ad = ad' := by injection e'
               have hrd2 : rd_T32 chg ((k + 1 : Nat) : Int) = chg[k + 1] := getD_at chg (k + 1) _ hlt2
               simp only [hrd2, Int.toNat_natCast] at hz0
               clear hrd2 e' e2
               generalize chg[k + 1] = x2 at hup2 hz0
               obtain ⟨a2, st2, nm2⟩ := x2
               simp only at hup2 hz0
               go_wp2_with fail)
          all_goals
            refine (twins_int (some ⟨g8, 0, none⟩) c8 [st] wr (Kd.R_reads' HV8.out).2.2 (fun x hx => by have := List.mem_singleton.1 hx; subst this; exact WalkArith.wf_i64 (by omega)) (by simp)).mono ?_
            rintro e w10 ⟨v, rfl, _, hv, hb10⟩
            obtain rfl := hv (twins_nodup _ _ (by simp))
            clear hv
            have HV10 := Aside0.mk (Kd.R_below HV9.out hb10)
            have HB10 := Aside0.mk (below_step HB5.out hb10)
            clear hb10 HV9 HV8 HB5
            go_wp2
            go_loopw [4, 10, 66] (fun s4 _ s66 wi => s4 = .slice none 0 0 ∧ s66 = .int .i64 0 ∧ wi = w10) (fun _ _ _ _ => 0)
            case atStart => exact ⟨rfl, rfl, rfl⟩
            case round =>
              obtain ⟨rfl, rfl, hwi⟩ := hrel
              rw [hwi]
              clear hwi
              have htw := twins_str (some ⟨g, 0, none⟩) cg (namesK first chg (k + 1)) w10 (Kd.R_reads' HV10.out).2.2 (fun x hx => by have := (namesK_ok first chg HOK.out (k + 1) x hx).2.1; unfold maxLen; omega) (by rw [namesK_length]; omega)
              rw [namesK_length first chg (k + 1)] at htw
              have HTW := Lib.hid htw
              clear htw
              go_wp2_with fail
              refine HTW.out.mono ?_
              clear HTW
              rintro e w11 ⟨v, rfl, hown, hv, hb11⟩
              by_cases hnd : (namesK first chg (k + 1)).Nodup
              · obtain rfl := hv (twins_nodup _ _ hnd)
                have HNX : Aside0 (∀ j, j ≤ k + 1 → (namesK first chg j).Nodup) := ⟨fun j hj => by
                  rcases Nat.lt_or_ge k j with h | h
                  · obtain rfl : j = k + 1 := by omega
                    exact hnd
                  · exact HNC.out j h⟩
                clear hown hnd
                clear hv
                have hl7 := Kd.S_lt HS.out g7 (by simp [Value.ownBlock])
                have HV11 := Aside0.mk (Kd.R_below HV10.out hb11)
                have HB11 := Aside0.mk (below_step HB10.out hb11)
                clear hb11 HV10 HB10
                have HS11 := Aside0.mk (Kd.S_old HS.out HB11.out)
                have HC11 := Aside0.mk (Kd.R_below HC5.out HB11.out)
                have BK11 := Aside0.mk (blk_below BK2.out HB11.out)
                have HBw11 := Aside0.mk (below_step HB.out HB11.out)
                have p2 : w11.cell? ⟨w.heap.size + 1, 2, none⟩ = some (.slice (some ⟨g7, 0, none⟩) (k + 1) c7) := (blk_cell BK11.out 2).trans rfl
                have h0o := HB.out.size
                have ho11 := HB11.out.size
                have hbl := bookPages_length first chg k hk
                clear HB HS HC5 BK2
                have HM11 := Aside0.mk (k100_mkM w11 w.heap.size (fun k_ => wo.heap.size ≤ k_) ⟨a, namesK first chg (k + 1)⟩ (Kd.R_lower (Kd.R_mono (Kd.R_bound HV11.out) (fun k_ hk_ => hk_.2.1)) h0o))
                have HSb := Aside0.mk (Kd.S_mono HS11.out (ok' := fun k_ => True ∧ ¬ wo.heap.size ≤ k_) (fun k_ hk_ => ⟨trivial, by have := hk_.2; omega⟩))
                have HTY := Aside0.mk (Kd.S_typed HS11.out)
                have hne7 := Kd.S_ne HS11.out BK11.out (by decide)
                go_wp2_with (at_builtin; refine Kd.S_append k100 (w0 := w) w.heap.size rfl (.tmp 91) (.tmp 95) 55 100 (.agg #[.int .i64 0, .slice none 0 0]) 32 rfl Try.underlying55 infoPage rfl (by decide) (by decide) (.slice (some ⟨g7, 0, none⟩) (k + 1) c7) (bookPages first chg k) ⟨a, namesK first chg (k + 1)⟩ [.int .i64 a, .slice (some ⟨g, 0, none⟩) first.length cg] (fun _ => True) (fun k_ => wo.heap.size ≤ k_) rfl rfl HM11.out (fun k_ hk_ => ⟨trivial, fun e_ => by have e2_ : k_ = g7 := (by simpa [Value.ownBlock] using e_); omega⟩) (fun _ _ => trivial) HSb.out HBw11.out (by omega) (by omega) ?_; intro v1 w12 ho hb hg _; obtain ⟨g9, c9, rfl, _⟩ := Kd.S_form ho (by simp); have HS12 := Aside0.mk ho; have HB12 := Aside0.mk hb; have BK12 := Aside0.mk (blk_grown BK11.out hg hne7); have HV12 := Aside0.mk (Kd.R_over' HV11.out HTY.out (by decide) hg); have HC12 := Aside0.mk (Kd.R_over' HC11.out HTY.out (by decide) hg); have p3 : w12.cell? ⟨w.heap.size + 1, 2, none⟩ = some (.slice (some ⟨g7, 0, none⟩) (k + 1) c7) := (blk_cell BK12.out 2).trans rfl; have p4 := blk_frozen BK12.out 2; clear ho hb hg)
                go_roundw
                case rel =>
                  have hmk : chg.length - (k + 1) = m := by omega
                  refine ⟨k + 1, by omega, HNX, rfl, ⟨_, c', by rw [hmk], by rw [hmk]; exact hcut'⟩, ⟨g, cg, rfl, ⟨Kd.R_set (Kd.R_lower HV12.out h0o) BK12.out (by decide) 2 _⟩⟩, ⟨Kd.R_set HC12.out BK12.out (by decide) 2 _⟩, ⟨g9, c9, ⟨blk_put BK12.out 2 _ rfl⟩, ⟨?_⟩⟩, ⟨below_set HB12.out (by omega)⟩⟩
                  have h12 := HS12.out
                  rw [← HBK.out, bookPages_length _ _ _ (by omega)] at h12
                  exact Kd.S_set h12 BK12.out (by decide) 2 _
                case measure => show m < m + 1; omega
              · clear hv
                have hne : twins ByteArray.empty (namesK first chg (k + 1)) ≠ [] := fun h => hnd (nodup_twins _ _ h)
                have htl := twK_length ByteArray.empty (namesK first chg (k + 1)) (namesK first chg (k + 1)).length
                rw [namesK_length] at htl
                have htl2 : (ints (twins ByteArray.empty (namesK first chg (k + 1)))).length ≤ 6 := by rw [ints_length]; unfold twins; rw [namesK_length]; omega
                have hpos : 0 < (ints (twins ByteArray.empty (namesK first chg (k + 1)))).length := by
                  rw [ints_length]
                  exact List.length_pos_iff.2 hne
                generalize ints (twins ByteArray.empty (namesK first chg (k + 1))) = tw at hown htl2 hpos
                obtain ⟨g8', cap8, rfl, hg8⟩ : ∃ g8 cap, v = .slice (some ⟨g8, 0, none⟩) tw.length cap ∧ w10.heap.size ≤ g8 := by
                  rcases hown.2 with ⟨_, h0⟩ | ⟨g', cap', cur, hv, hg, _⟩
                  · omega
                  · exact ⟨g', cap', hv, hg⟩
                have HOW := Aside0.mk hown
                have HB11 := Aside0.mk (below_step HB10.out hb11)
                have BK11 := Aside0.mk (blk_below BK2.out HB11.out)
                have h11 := HB10.out.size
                have hwo := HB.out.size
                have HBw11 := Aside0.mk (below_step HB.out HB11.out)
                have hl11 := blk_lt BK2.out
                clear hown hb11 HB10 HV10 hne htl hnd
                go_wp2_with fail
                refine (Sort_own HOW.out (by omega)).mono ?_
                rintro e w12 ⟨rfl, ts, hown2, hgr⟩
                have HOW2 := Aside0.mk hown2
                have HB12 := Aside0.mk (Below.grown HBw11.out hgr HBw11.out.size (fun k_ e => by injection e with e; omega))
                have BK12 := Aside0.mk (blk_grown BK11.out hgr (fun e => by injection e with e; omega))
                clear hown2 hgr HOW BK11 HBw11 HB11
                go_upto_region 22 with fail
                generalize a = aT
                have hs12 := HB12.out.size
                have hwk0 : w.heap.size < g8' := by omega
                refine start_ (n := 7) (S := fun w' => True) (ds := []) #[false, false, false, false, false, false, false] (by kernel_rfl) rfl rfl trivial (fun hHeld => ?_)
                refine with_tabW clash.tab22 clash.bits22 (fun HT_ HW_ => ?_)
                have FB := Aside0.mk (below_drew HB12.out)
                have FK := Aside0.mk (blk_drew BK12.out)
                have FO : Aside0 (w12.drew.ownsRow w10.heap.size 3 1 (.slice (some ⟨g8', 0, none⟩) tw.length cap8) tw.length (nums .i64 ts)) := ⟨HOW2.out⟩
                generalize w12.drew = w8 at FB FK FO ⊢
                refine inv_at [0, 1, 2, 3, 4, 5, 6] (fun a0_ b a w' => ∃ (m_ : Nat) (m3_ : Value) (m6_ : Value), a = putSel a0_ b [(0, 86, .agg #[.slice A1 first.length k1, .slice A2 chg.length k2, .slice (some ⟨g7, 0, none⟩) (k + 1) c7]), (1, 87, .int .i64 aT), (2, 88, .slice (some ⟨g8', 0, none⟩) tw.length cap8), (3, 89, m3_), (5, 3, .int .i64 aT), (6, 4, m6_)] ∧ (Below w.heap.size w w') ∧ (w'.heap[w.heap.size + 1]? = some (.cells #[.slice A1 first.length k1, .slice A2 chg.length k2, .slice (some ⟨g7, 0, none⟩) (k + 1) c7] 57 (0, 0))) ∧ (b 3 = false → w'.ownsRow w10.heap.size 3 1 (.slice (some ⟨g8', 0, none⟩) tw.length cap8) tw.length (nums .i64 ts)) ∧ (b 3 = true → (m3_ : Value) = .slice (some ⟨g8', 0, none⟩) m_ cap8) ∧ (b 6 = true → (m6_ : Value) = .slice (some ⟨g8', 0, none⟩) m_ cap8)) HT_.out HW_.out (by kernel_rfl) (by kernel_rfl) ?_ ?_ ?_
                · exact ⟨0, .bool false, .bool false, by simp only [putSel, Bool.false_eq_true, if_false], FB.out, FK.out, fun _ => FO.out, fun h_ => absurd h_ (by decide), fun h_ => absurd h_ (by decide)⟩
                · skip
                  clear FB FK FO
                  refine steps_cons ?_ ?_
                  · rintro b a w' ⟨m_, m3_, m6_, ha, Q_FB, Q_FK, Q_FO, Q_X3_, Q_X6_⟩ hb_ hon hoff
                    refine ⟨_, rfl, fun K hK => ?_⟩
                    have e2 : a.tmps[2]? = some (.pointer (some ⟨w.heap.size + 1, 0, none⟩)) := by rw [ha]; exact (putSel_off rfl).trans rfl
                    replace ha := Aside0.mk ha
                    have FB := Aside0.mk Q_FB
                    have FK := Aside0.mk Q_FK
                    have r0_ : w'.cell? ⟨w.heap.size + 1, 0, none⟩ = some (.slice A1 first.length k1) := (blk_cell FK.out 0).trans rfl
                    have r1_ : w'.cell? ⟨w.heap.size + 1, 1, none⟩ = some (.slice A2 chg.length k2) := (blk_cell FK.out 1).trans rfl
                    have r2_ : w'.cell? ⟨w.heap.size + 1, 2, none⟩ = some (.slice (some ⟨g7, 0, none⟩) (k + 1) c7) := (blk_cell FK.out 2).trans rfl
                    refine value_ (w1 := w') (v := .agg #[.slice A1 first.length k1, .slice A2 chg.length k2, .slice (some ⟨g7, 0, none⟩) (k + 1) c7]) (by rfl) rfl ?_ ?_
                    · go_simp
                      (try simp only [i64_w])
                      try rfl
                    refine hK.out _ _ ⟨m_, m3_, m6_, (by rw [ha.out]; exact putSel_upk 0 hb_ rfl rfl rfl), Q_FB, Q_FK, Q_FO, Q_X3_, fun h0_ => absurd ((hoff 6 (by kernel_rfl)).symm.trans h0_) (by decide)⟩
                  refine steps_cons ?_ ?_
                  · rintro b a w' ⟨m_, m3_, m6_, ha, Q_FB, Q_FK, Q_FO, Q_X3_, Q_X6_⟩ hb_ hon hoff
                    refine ⟨_, rfl, fun K hK => ?_⟩
                    have e7 : a.tmps[7]? = some (.int .i64 aT) := by rw [ha]; exact (putSel_off rfl).trans rfl
                    replace ha := Aside0.mk ha
                    have FB := Aside0.mk Q_FB
                    have FK := Aside0.mk Q_FK
                    refine value_ (w1 := w') (v := .int .i64 aT) (by rfl) rfl ?_ ?_
                    · go_simp
                      (try simp only [i64_w])
                      try rfl
                    refine hK.out _ _ ⟨m_, m3_, m6_, (by rw [ha.out]; exact putSel_upk 1 hb_ rfl rfl rfl), Q_FB, Q_FK, Q_FO, Q_X3_, fun h0_ => absurd ((hoff 6 (by kernel_rfl)).symm.trans h0_) (by decide)⟩
                  refine steps_cons ?_ ?_
                  · rintro b a w' ⟨m_, m3_, m6_, ha, Q_FB, Q_FK, Q_FO, Q_X3_, Q_X6_⟩ hb_ hon hoff
                    refine ⟨_, rfl, fun K hK => ?_⟩
                    have e4 : a.tmps[4]? = some (.slice (some ⟨g8', 0, none⟩) tw.length cap8) := by rw [ha]; exact (putSel_not (hoff 6 (by kernel_rfl)) rfl).trans rfl
                    replace ha := Aside0.mk ha
                    have FB := Aside0.mk Q_FB
                    have FK := Aside0.mk Q_FK
                    have FO := Aside0.mk (Q_FO (hoff 3 (by kernel_rfl)))
                    refine value_ (w1 := w') (v := .slice (some ⟨g8', 0, none⟩) tw.length cap8) (by rfl) rfl ?_ ?_
                    · go_simp
                      (try simp only [i64_w])
                      try rfl
                    refine hK.out _ _ ⟨m_, m3_, m6_, (by rw [ha.out]; exact putSel_upk 2 hb_ rfl rfl rfl), Q_FB, Q_FK, Q_FO, fun h0_ => absurd ((hoff 3 (by kernel_rfl)).symm.trans h0_) (by decide), fun h0_ => absurd ((hoff 6 (by kernel_rfl)).symm.trans h0_) (by decide)⟩
                  refine steps_cons ?_ ?_
                  · rintro b a w' ⟨m_, m3_, m6_, ha, Q_FB, Q_FK, Q_FO, Q_X3_, Q_X6_⟩ hb_ hon hoff
                    refine ⟨_, rfl, fun K hK => ?_⟩
                    have e88 : a.tmps[88]? = some (.slice (some ⟨g8', 0, none⟩) tw.length cap8) := by rw [ha]; exact putSel_on (e := (2, 88, .slice (some ⟨g8', 0, none⟩) tw.length cap8)) 2 rfl rfl (hon 2 (by kernel_rfl)) rfl
                    replace ha := Aside0.mk ha
                    have FB := Aside0.mk Q_FB
                    have FK := Aside0.mk Q_FK
                    have FO := Aside0.mk (Q_FO hb_)
                    refine goes_ Try.func41 (by kernel_rfl) rfl #[.slice (some ⟨g8', 0, none⟩) tw.length cap8] (by rfl) rfl rfl (by first | rfl | (simp [Act.eval, e88]; done)) ?_
                    refine (Compact_own FO.out (by omega)).mono ?_
                    rintro e w2_ ⟨⟨mm, rfl⟩, hgr⟩
                    refine ⟨_, rfl, ?_⟩
                    refine hK.out _ _ ⟨mm, (.slice (some ⟨g8', 0, none⟩) mm cap8), m6_, (by rw [ha.out]; exact putSel_upk 3 hb_ rfl rfl rfl), Below.grown FB.out hgr FB.out.size (fun k_ e => by injection e with e; omega), blk_grown FK.out hgr (fun e => by injection e with e; omega), fun h0_ => absurd ((up_self b 3).symm.trans h0_) (by decide), fun _ => rfl, fun h0_ => absurd ((hoff 6 (by kernel_rfl)).symm.trans h0_) (by decide)⟩
                  refine steps_cons ?_ ?_
                  · rintro b a w' ⟨m_, m3_, m6_, ha, Q_FB, Q_FK, Q_FO, Q_X3_, Q_X6_⟩ hb_ hon hoff
                    refine ⟨_, rfl, fun K hK => ?_⟩
                    have e2 : a.tmps[2]? = some (.pointer (some ⟨w.heap.size + 1, 0, none⟩)) := by rw [ha]; exact (putSel_off rfl).trans rfl
                    have e86 : a.tmps[86]? = some (.agg #[.slice A1 first.length k1, .slice A2 chg.length k2, .slice (some ⟨g7, 0, none⟩) (k + 1) c7]) := by rw [ha]; exact putSel_on (e := (0, 86, .agg #[.slice A1 first.length k1, .slice A2 chg.length k2, .slice (some ⟨g7, 0, none⟩) (k + 1) c7])) 0 rfl rfl (hon 0 (by kernel_rfl)) rfl
                    replace ha := Aside0.mk ha
                    have FB := Aside0.mk Q_FB
                    have FK := Aside0.mk Q_FK
                    have r0_ : w'.cell? ⟨w.heap.size + 1, 0, none⟩ = some (.slice A1 first.length k1) := (blk_cell FK.out 0).trans rfl
                    have r1_ : w'.cell? ⟨w.heap.size + 1, 1, none⟩ = some (.slice A2 chg.length k2) := (blk_cell FK.out 1).trans rfl
                    have r2_ : w'.cell? ⟨w.heap.size + 1, 2, none⟩ = some (.slice (some ⟨g7, 0, none⟩) (k + 1) c7) := (blk_cell FK.out 2).trans rfl
                    have f0_ := blk_frozen FK.out 0
                    have f1_ := blk_frozen FK.out 1
                    have f2_ := blk_frozen FK.out 2
                    refine skip_ (w1 := ((w'.setCell ⟨w.heap.size + 1, 0, none⟩ (.slice A1 first.length k1)).setCell ⟨w.heap.size + 1, 1, none⟩ (.slice A2 chg.length k2)).setCell ⟨w.heap.size + 1, 2, none⟩ (.slice (some ⟨g7, 0, none⟩) (k + 1) c7)) (by rfl) rfl ?_ ?_
                    · go_simp
                      try rfl
                    refine hK.out _ _ ⟨m_, m3_, m6_, (by rw [ha.out]; exact putSel_none (v := undef) rfl), below_set (below_set (below_set FB.out (by omega)) (by omega)) (by omega), blk_put (blk_put (blk_put FK.out 0 _ rfl) 1 _ rfl) 2 _ rfl, fun h0_ => absurd ((hon 3 (by kernel_rfl)).symm.trans h0_) (by decide), Q_X3_, fun h0_ => absurd ((hoff 6 (by kernel_rfl)).symm.trans h0_) (by decide)⟩
                  refine steps_cons ?_ ?_
                  · rintro b a w' ⟨m_, m3_, m6_, ha, Q_FB, Q_FK, Q_FO, Q_X3_, Q_X6_⟩ hb_ hon hoff
                    refine ⟨_, rfl, fun K hK => ?_⟩
                    have e87 : a.tmps[87]? = some (.int .i64 aT) := by rw [ha]; exact putSel_on (e := (1, 87, .int .i64 aT)) 1 rfl rfl (hon 1 (by kernel_rfl)) rfl
                    replace ha := Aside0.mk ha
                    have FB := Aside0.mk Q_FB
                    have FK := Aside0.mk Q_FK
                    refine value_ (w1 := w') (v := .int .i64 aT) (by rfl) rfl ?_ ?_
                    · go_simp
                      (try simp only [i64_w])
                      try rfl
                    refine hK.out _ _ ⟨m_, m3_, m6_, (by rw [ha.out]; exact putSel_upk 4 hb_ rfl rfl rfl), Q_FB, Q_FK, fun h0_ => absurd ((hon 3 (by kernel_rfl)).symm.trans h0_) (by decide), Q_X3_, fun h0_ => absurd ((hoff 6 (by kernel_rfl)).symm.trans h0_) (by decide)⟩
                  refine steps_cons ?_ ?_
                  · rintro b a w' ⟨m_, m3_, m6_, ha, Q_FB, Q_FK, Q_FO, Q_X3_, Q_X6_⟩ hb_ hon hoff
                    refine ⟨_, rfl, fun K hK => ?_⟩
                    have e89 : a.tmps[89]? = some (m3_) := by rw [ha]; exact putSel_on (e := (3, 89, m3_)) 3 rfl rfl (hon 3 (by kernel_rfl)) rfl
                    rw [Q_X3_ (hon 3 (by kernel_rfl))] at e89
                    replace ha := Aside0.mk ha
                    have FB := Aside0.mk Q_FB
                    have FK := Aside0.mk Q_FK
                    refine value_ (w1 := w') (v := .slice (some ⟨g8', 0, none⟩) m_ cap8) (by rfl) rfl ?_ ?_
                    · go_simp
                      (try simp only [i64_w])
                      try rfl
                    refine hK.out _ _ ⟨m_, m3_, (.slice (some ⟨g8', 0, none⟩) m_ cap8), (by rw [ha.out]; exact putSel_upk 5 hb_ rfl rfl rfl), Q_FB, Q_FK, fun h0_ => absurd ((hon 3 (by kernel_rfl)).symm.trans h0_) (by decide), Q_X3_, fun _ => rfl⟩
                  exact steps_nil
                · rintro b a w' hall ⟨m_, m3_, m6_, ha, Q_FB, Q_FK, Q_FO, Q_X3_, Q_X6_⟩
                  clear FB FK FO
                  have hb0_ := hall 0 (by kernel_rfl)
                  have hb1_ := hall 1 (by kernel_rfl)
                  have hb2_ := hall 2 (by kernel_rfl)
                  have hb3_ := hall 3 (by kernel_rfl)
                  have hb4_ := hall 4 (by kernel_rfl)
                  have hb5_ := hall 5 (by kernel_rfl)
                  have hb6_ := hall 6 (by kernel_rfl)
                  subst ha
                  obtain rfl := Q_X3_ hb3_
                  obtain rfl := Q_X6_ hb6_
                  simp only [putSel, hb0_, hb1_, hb2_, hb3_, hb4_, hb5_, hb6_, if_true, Act.put, List.setIfInBounds_toArray, List.set_cons_zero, List.set_cons_succ]
                  have FB := Aside0.mk Q_FB
                  clear Q_FB
                  have FK := Aside0.mk Q_FK
                  clear Q_FK
                  clear Q_FO
                  clear hall hb0_ hb1_ hb2_ hb3_ hb4_ hb5_ hb6_
                  go_wp2_with fail
                  refine bodyPost_ret (results_ctt rfl _ _ (w.heap.size + 1) _ _ (0, 0) _ rfl FK.out Try.underlying57 rfl (by kernel_rfl)) rfl ?_
                  exact ⟨⟨_, aT, g8', m_, cap8, rfl⟩, FB.out⟩
    · obtain ⟨j, hj, hn⟩ := HCL.out
      exact absurd (HNC.out j (by omega)) hn
end Go.Proofs.Ytfbndhhogpacmaa
