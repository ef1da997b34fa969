import Derived.Test.YtfbndhhogpacmaaPd
import Derived.Deep.RegionWith
import Derived.Deep.RegionHeld3
/-! street.newBook where no two names clash: the pages, one for each hour. -/
namespace Go.Proofs.Ytfbndhhogpacmaa
open Go.RowKit Go.Shelf
open Go.Proofs.YtfbndhhogpacmaaW.PrintWords Go.Proofs.Ytfbndhhogpacmaa.T
set_option linter.unusedVariables false
set_option linter.unusedSimpArgs false
/-- The names after the first k changes. -/
def namesK (first : List ByteArray) (chg : List S32) : Nat → List ByteArray
  | 0 => first
  | k + 1 => match chg[k]? with
    | some c => (namesK first chg k).set c.f1.toNat c.f2
    | none => namesK first chg k
theorem namesK_succ (first : List ByteArray) (chg : List S32) (k : Nat) (hk : k < chg.length) : namesK first chg (k + 1) = (namesK first chg k).set chg[k].f1.toNat chg[k].f2 := by
  rw [namesK, List.getElem?_eq_getElem hk]
theorem namesK_length (first : List ByteArray) (chg : List S32) (k : Nat) : (namesK first chg k).length = first.length := by
  induction k with
  | zero => rfl
  | succ k ih =>
    rw [namesK]
    split <;> simp [ih]
theorem namesK_ok (first : List ByteArray) (chg : List S32) (ok : OkTown first chg) (k : Nat) : ∀ s ∈ namesK first chg k, IsNm s := by
  induction k with
  | zero => exact ok.nm
  | succ k ih =>
    rw [namesK]
    split
    · rename_i c hc
      intro s hs
      rcases List.mem_or_eq_of_mem_set hs with h | h
      · exact ih s h
      · rw [h]; exact (ok.ch c (List.mem_of_getElem? hc)).nm
    · exact ih
/-- The pages after the first k changes. -/
def bookPages (first : List ByteArray) (chg : List S32) : Nat → List S100
  | 0 => [⟨0, first⟩]
  | k + 1 => match chg[k]? with
    | some c => bookPages first chg k ++ [⟨c.f0, namesK first chg (k + 1)⟩]
    | none => bookPages first chg k
theorem bookPages_succ (first : List ByteArray) (chg : List S32) (k : Nat) (hk : k < chg.length) : bookPages first chg (k + 1) = bookPages first chg k ++ [⟨chg[k].f0, namesK first chg (k + 1)⟩] := by
  rw [bookPages, List.getElem?_eq_getElem hk]
theorem bookPages_length (first : List ByteArray) (chg : List S32) (k : Nat) (hk : k ≤ chg.length) : (bookPages first chg k).length = k + 1 := by
  induction k with
  | zero => rfl
  | succ k ih => rw [bookPages_succ _ _ _ (by omega), List.length_append, ih (by omega)]; rfl
theorem S_one {α : Type} (d : Kd α) (e base : Nat) (W : World) (p : α) (cs : List Value) (okp : Nat → Prop) (hp : d.M W base okp p cs) (hcs : cs.length = d.sz) (hbase : base ≤ W.heap.size) : d.S e (W.alloc (.cells cs.toArray e)) base (fun _ => True) (.slice (some ⟨W.heap.size, 0, none⟩) 1 1) [p] := by
  refine ⟨fun _ => 0, fun k hk => trivial, cs, ?_, ?_⟩
  · have h2 := World.ownsRow_lit (base := base) (e := e) (size := d.sz) W cs.toArray 1 hbase (by simp [maxLen]) (by simpa using hcs)
    simpa [Kd.tag] using h2
  · refine ⟨by simp [Kd.tag, hcs], fun j q hj => ?_⟩
    match j, hj with
    | 0, hj =>
      simp at hj
      subst hj
      have hc : ((cs.drop (0 * (Kd.tag (fun _ => 0) d).sz)).take (Kd.tag (fun _ => 0) d).sz) = cs := by
        rw [Nat.zero_mul, List.drop_zero]
        exact List.take_of_length_le (by rw [hcs]; exact Nat.le_refl _)
      rw [hc]
      refine d.M_mono (fun k hk => ?_) (Kd.M_below (d.M_bound hp) (below_alloc (Below.refl _ _) _))
      refine ⟨⟨trivial, fun he => ?_⟩, rfl⟩
      have h3 : k = W.heap.size := by simpa [Value.ownBlock] using he
      have := hk.2.2.1
      omega
def lenV : Value → Nat
  | .slice _ n _ => n
  | _ => 0
/-- The changes from number k on: a cut of the row at A5. -/
def CutAt (A5 : Option Addr) (k n : Nat) (A : Option Addr) (c : Nat) : Prop := n ≤ c ∧ (n = 0 ∨ ∃ ad, A5 = some ad ∧ A = some (ad.add (k * 3)))
theorem CutAt.first (A5 : Option Addr) (n c : Nat) (hc : n ≤ c) (h : n = 0 ∨ ∃ ad, A5 = some ad) : CutAt A5 0 n A5 c := by
  refine ⟨hc, h.imp id ?_⟩
  rintro ⟨ad, rfl⟩
  exact ⟨ad, rfl, by simp [Addr.add]⟩
theorem CutAt.next {A5 : Option Addr} {k n : Nat} {A : Option Addr} {c : Nat} (h : CutAt A5 k (n + 1) A c) : CutAt A5 (k + 1) n (if c = 1 then A else A.map (·.add (1 * 3))) (c - 1) := by
  obtain ⟨hc, h⟩ := h
  refine ⟨by omega, ?_⟩
  rcases h with h | ⟨ad, rfl, rfl⟩
  · omega
  · by_cases h1 : n = 0
    · exact .inl h1
    · right
      refine ⟨ad, rfl, ?_⟩
      rw [if_neg (by omega), Option.map_some, add_add]
      congr 2
      omega
theorem cut1 (A : Option Addr) (n c : Nat) (hn : 1 ≤ n) (W : World) : (Instr.slice 25 (.slice A n c) (some (.int .i64 1)) none none).run Try.prog W = .ok (.slice (if c = 1 then A else A.map (·.add (1 * 3))) (n - 1) (c - 1)) W := by
  obtain ⟨i0, hi, hz0, hz1, hz2⟩ := info_parts info32
  exact cut_from 25 32 .i64 Try.underlying25 hi 3 hz1 A n c 1 (by decide) (by omega) W
theorem infoPage : (Try.prog.info? 100).map (fun i => (i.zero, i.size, i.bytes)) = some (some (.agg #[.int .i64 0, .slice none 0 0]), 2, 32) := by kernel_rfl
set_option maxRecDepth 100000 in
set_option maxHeartbeats 4000000 in
theorem newBook_ok (A1 A2 : Option Addr) (k1 k2 : Nat) (first : List ByteArray) (chg : List S32) (w : World) (h1 : Kd.string.C w A1 first.length first) (h2 : k32.C w A2 chg.length chg) (ok : OkTown first chg) (nc : ∀ k ≤ chg.length, (namesK first chg k).Nodup) :
    Calls Try.prog 15 #[.agg #[.slice A1 first.length k1, .slice A2 chg.length k2]] w fun e w' => ∃ A3 c3, e = .returned (.tuple #[.agg #[.slice A1 first.length k1, .slice A2 chg.length k2, .slice A3 (chg.length + 1) c3], .int .i64 0, .slice none 0 0]) ∧ k100.S 100 w' w.heap.size (fun _ => True) (.slice A3 (chg.length + 1) c3) (bookPages first chg chg.length) ∧ Below w.heap.size w w' := by
  have hn1 := ok.n1
  have hn2 := ok.n2
  have hc1 := ok.c1
  have hq := eqlNil_int
  have hq2 := neqNil_int
  have HOK := Aside0.mk ok
  have HNC := Aside0.mk nc
  have H1 := Aside0.mk h1
  have H2 := Aside0.mk h2
  clear ok nc h1 h2
  go_enter Try.func15, Try.ntmps15
  go_wp2_with fail
  have K2 : ((w.alloc (.cells #[.slice A1 first.length k1, .slice A2 chg.length k2] 27)).alloc (.cells #[.slice A1 first.length k1, .slice A2 chg.length k2, .slice none 0 0] 57)).heap[w.heap.size + 1]? = some (.cells #[.slice A1 first.length k1, .slice A2 chg.length k2, .slice none 0 0] 57 (0, 0)) := by
    have := blk_new (w.alloc (.cells #[.slice A1 first.length k1, .slice A2 chg.length k2] 27)) (.cells #[.slice A1 first.length k1, .slice A2 chg.length k2, .slice none 0 0] 57)
    simpa using this
  have K1 := blk_alloc (blk_new w (.cells #[.slice A1 first.length k1, .slice A2 chg.length k2] 27)) (.cells #[.slice A1 first.length k1, .slice A2 chg.length k2, .slice none 0 0] 57)
  have HB0 := below_alloc (below_alloc (Below.refl w.heap.size w) (.cells #[.slice A1 first.length k1, .slice A2 chg.length k2] 27)) (.cells #[.slice A1 first.length k1, .slice A2 chg.length k2, .slice none 0 0] 57)
  generalize (w.alloc (.cells #[.slice A1 first.length k1, .slice A2 chg.length k2] 27)).alloc (.cells #[.slice A1 first.length k1, .slice A2 chg.length k2, .slice none 0 0] 57) = W0 at K1 K2 HB0 ⊢
  have BK1 := Aside0.mk K1
  have BK2 := Aside0.mk K2
  have HB := Aside0.mk HB0
  clear K1 K2 HB0
  refine (callsIn_wide.1 (values_in Fence.wide 1 trivial rfl A2 chg.length k2 W0)).mono ?_
  rintro e w1 ⟨rfl, rfl⟩
  go_wp2_with fail
  refine (sortedStable_up A2 k2 chg w _ H2.out (below_alloc HB.out _) W0.heap.size (by simp) (by simp) hc1 HOK.out.up).mono ?_
  rintro e w2 ⟨A5, c5, rfl, hC5, hb2⟩
  have HC5 := Aside0.mk (Kd.R_lower hC5 (base' := w.heap.size) (by simp; have := HB.out.size; omega))
  replace BK1 := Aside0.mk (blk_below (blk_alloc BK1.out _) hb2)
  replace BK2 := Aside0.mk (blk_below (blk_alloc BK2.out _) hb2)
  replace HB := Aside0.mk (below_step (below_alloc HB.out _) hb2)
  have h02 := HB.out.size
  clear hC5 hb2
  have q1 : w2.cell? ⟨w.heap.size, 0, none⟩ = some (.slice A1 first.length k1) := (blk_cell BK1.out 0).trans rfl
  go_wp2_with fail
  refine (Clone_str A1 k1 first w2 (Kd.C_below H1.out HB.out) (by intro h; rw [h] at hn1; simp at hn1) (by omega)).mono ?_
  rintro e w3 ⟨v, rfl, hv, hb3⟩
  have HV := Aside0.mk hv
  replace BK1 := Aside0.mk (blk_below BK1.out hb3)
  replace BK2 := Aside0.mk (blk_below BK2.out hb3)
  replace HB := Aside0.mk (below_step HB.out hb3)
  replace HC5 := Aside0.mk (Kd.R_below HC5.out hb3)
  obtain ⟨A6, c6, rfl, hl6, hC6⟩ := Kd.R_reads hv
  have HC6 := Aside0.mk hC6
  have h23 := hb3.size
  clear hv hb3 hC6 q1
  have q2 : w3.cell? ⟨w.heap.size + 1, 2, none⟩ = some (.slice none 0 0) := (blk_cell BK2.out 2).trans rfl
  have q3 := blk_frozen BK2.out 2
  have hw13 : w.heap.size + 1 < w3.heap.size := blk_lt BK2.out
  replace HV := Aside0.mk (Kd.R_lower (base' := w.heap.size) HV.out h02)
  have HV4 := Aside0.mk (Kd.R_set HV.out BK2.out (by decide) 2 (.slice (some ⟨w3.heap.size, 0, none⟩) 1 1))
  have HC54 := Aside0.mk (Kd.R_set HC5.out BK2.out (by decide) 2 (.slice (some ⟨w3.heap.size, 0, none⟩) 1 1))
  have BK14 := Aside0.mk (blk_far BK1.out (p := ⟨w.heap.size + 1, 2, none⟩) (by simp) (.slice (some ⟨w3.heap.size, 0, none⟩) 1 1))
  have BK24 := Aside0.mk (blk_put BK2.out 2 (.slice (some ⟨w3.heap.size, 0, none⟩) 1 1) rfl)
  have HB4 := Aside0.mk (below_set (g := w.heap.size + 1) (j := 2) (v := .slice (some ⟨w3.heap.size, 0, none⟩) 1 1) HB.out (by omega))
  have hsz : (w3.setCell ⟨w.heap.size + 1, 2, none⟩ (.slice (some ⟨w3.heap.size, 0, none⟩) 1 1)).heap.size = w3.heap.size := by simp
  go_wp2
  generalize w3.setCell ⟨w.heap.size + 1, 2, none⟩ (.slice (some ⟨w3.heap.size, 0, none⟩) 1 1) = W4 at HV4 HC54 BK14 BK24 HB4 hsz ⊢
  rw [← hsz] at BK24
  have HS := Aside0.mk (S_one k100 100 w.heap.size W4 ⟨0, first⟩ [.int .i64 0, .slice A6 first.length c6] _ (k100_mkM W4 w.heap.size (fun _ => True) ⟨0, first⟩ HV4.out) rfl (HB4.out.size))
  replace BK1 := Aside0.mk (blk_alloc BK14.out (.cells #[.int .i64 0, .slice A6 first.length c6] 100))
  replace BK2 := Aside0.mk (blk_alloc BK24.out (.cells #[.int .i64 0, .slice A6 first.length c6] 100))
  replace HC5 := Aside0.mk (Kd.R_below HC54.out (below_alloc (Below.refl _ _) (.cells #[.int .i64 0, .slice A6 first.length c6] 100)))
  replace HV := Aside0.mk (Kd.R_below HV4.out (below_alloc (Below.refl _ _) (.cells #[.int .i64 0, .slice A6 first.length c6] 100)))
  replace HB := Aside0.mk (below_alloc HB4.out (.cells #[.int .i64 0, .slice A6 first.length c6] 100))
  clear HV4 HC54 BK14 BK24 HB4 HC6 q2 q3
  generalize W4.alloc (.cells #[.int .i64 0, .slice A6 first.length c6] 100) = W5 at HV HC5 BK1 BK2 HB HS ⊢
  rw [hsz] at HS BK2
  have hA5 : chg.length = 0 ∨ ∃ ad, A5 = some ad := by
    by_cases h : chg = []
    · exact .inl (by rw [h]; rfl)
    · exact .inr (C_any (Kd.R_reads' HC5.out).2.2 h)
  have hc5 := (Kd.R_reads' HC5.out).2.1
  go_loopw [4, 5, 6, 7, 8, 10, 66] (fun s4 s5 s6 _ _ _ _ wr => ∃ k : Nat, k ≤ chg.length ∧ s4 = .slice none 0 0 ∧ (∃ A c, s5 = .slice A (chg.length - k) c ∧ CutAt A5 k (chg.length - k) A c) ∧ (∃ g6 c6, s6 = .slice (some ⟨g6, 0, none⟩) first.length c6 ∧ Aside0 (Kd.string.R 9 wr w.heap.size (fun _ => True) (.slice (some ⟨g6, 0, none⟩) first.length c6) (namesK first chg k)))
      ∧ Aside0 (k32.R 32 wr w.heap.size (fun _ => True) (.slice A5 chg.length c5) chg)
      ∧ (∃ g7 c7, Aside0 (wr.heap[w.heap.size + 1]? = some (.cells #[.slice A1 first.length k1, .slice A2 chg.length k2, .slice (some ⟨g7, 0, none⟩) (k + 1) c7] 57 (0, 0))) ∧ Aside0 (Kd.S k100 100 wr w.heap.size (fun _ => True) (.slice (some ⟨g7, 0, none⟩) (k + 1) c7) (bookPages first chg k)))
      ∧ Aside0 (Below w.heap.size w wr)) (fun _ s5 _ _ _ _ _ _ => lenV s5)
  case atStart =>
    obtain ⟨g6, c6', e6, _⟩ := Kd.R_form HV.out (by omega)
    injection e6 with e6 _ e6'
    subst e6 e6'
    exact ⟨0, Nat.zero_le _, rfl, ⟨A5, c5, rfl, CutAt.first A5 _ _ hc5 hA5⟩, ⟨g6, _, rfl, HV⟩, HC5, ⟨_, _, BK2, HS⟩, HB⟩
  case round =>
    clear HV HC5 BK2 HS HB BK1
    obtain ⟨k, hk, rfl, ⟨A, c, rfl, hcut⟩, ⟨g6, c6, rfl, HV⟩, HC5, ⟨g7, c7, BK2, HS⟩, HB⟩ := hrel
    rename World => wo
    by_cases hlt : k < chg.length
    · obtain ⟨m, hm⟩ : ∃ m, chg.length - k = m + 1 := ⟨chg.length - k - 1, by omega⟩
      rw [hm] at hcut ⊢
      have hcut2 := hcut.next
      obtain ⟨ad, eA5, eA⟩ : ∃ ad, A5 = some ad ∧ A = some (ad.add (k * 3)) := by
        rcases hcut.2 with h | h
        · omega
        · exact h
      have hcm := hcut.1
      subst eA5
      have hnk := namesK_succ first chg k hlt
      have hbk := bookPages_succ first chg k hlt
      have hokc := HOK.out.ch chg[k] (List.getElem_mem hlt)
      have hupc := fun (h : k + 1 < chg.length) => List.pairwise_iff_getElem.1 HOK.out.up k (k + 1) hlt h (by omega)
      obtain ⟨ad', e', hx0, hx1, hx2⟩ := at_T32 (Kd.R_reads' HC5.out).2.2 (k : Int) (by omega) (by omega)
      obtain rfl : ad = ad' := by injection e'
      have hrd : rd_T32 chg (k : Int) = chg[k] := getD_at chg k _ hlt
      simp only [hrd, Int.toNat_natCast] at hx0 hx1 hx2
      clear hrd e'
      generalize hck : chg[k] = x at hnk hbk hokc hupc hx0 hx1 hx2
      obtain ⟨a, st, nm⟩ := x
      simp only at hnk hbk hx0 hx1 hx2 hupc
      have HNK := Aside0.mk hnk
      have HBK := Aside0.mk hbk
      have hst0 := hokc.st1
      have hst1 := hokc.st2
      simp only at hst0 hst1
      clear hnk hbk hokc
      have HCUT2 := Aside0.mk hcut2
      have HUPC := Aside0.mk hupc
      clear hcut hcut2 hupc
      have q10 : (0 : Int) < ((m + 1 : Nat) : Int) := by omega
      subst eA
      -- at := changes[0].At; names = slices.Clone(names)
      go_wp2_with fail
      have hcl := Clone_str (some ⟨g6, 0, none⟩) c6 (namesK first chg k) wo (Kd.R_reads' HV.out).2.2 (by intro h; have := namesK_length first chg k; rw [h] at this; simp at this; omega) (by rw [namesK_length]; omega)
      rw [namesK_length first chg k] at hcl
      refine hcl.mono ?_
      clear hcl
      rintro e w4 ⟨v, rfl, hv4, hb4⟩
      obtain ⟨g, cg, rfl, hg0, hg1, cells, hgc⟩ := Kd.R_form hv4 (by rw [namesK_length]; omega)
      rw [namesK_length first chg k] at hv4 ⊢
      have HV4 := Aside0.mk hv4
      have HB4 := Aside0.mk hb4
      have y0 : w4.cell? (ad.add (k * 3)) = some (.int .i64 a) := (hb4.cell (World.block_lt_of_cell? _ _ hx0)).trans hx0
      have y1 : w4.cell? ⟨(ad.add (k * 3)).block, (ad.add (k * 3)).off + 1, none⟩ = some (.int .i64 st) := (hb4.cell (p := ⟨(ad.add (k * 3)).block, (ad.add (k * 3)).off + 1, none⟩) (World.block_lt_of_cell? _ _ hx1)).trans hx1
      have y2 : w4.cell? ⟨(ad.add (k * 3)).block, (ad.add (k * 3)).off + 2, none⟩ = some (.string nm) := (hb4.cell (p := ⟨(ad.add (k * 3)).block, (ad.add (k * 3)).off + 2, none⟩) (World.block_lt_of_cell? _ _ hx2)).trans hx2
      have hadb : (ad.add (k * 3)).block < wo.heap.size := World.block_lt_of_cell? _ _ hx0
      clear hv4 hb4
      obtain ⟨hc6a, hc6b⟩ := Kd.R_celln ByteArray.empty HV4.out st hst0 hst1
      have HPUT := Aside0.mk (Kd.R_putg HV4.out st nm)
      obtain ⟨A', c', hcut1, hcut3⟩ : ∃ A' c', (∀ W : World, (Instr.slice 25 (.slice (some (ad.add (k * 3))) (m + 1) c) (some (.int .i64 1)) none none).run Try.prog W = .ok (.slice A' m c') W) ∧ CutAt (some ad) (k + 1) m A' c' := ⟨_, _, fun W => cut1 (some (ad.add (k * 3))) (m + 1) c (by omega) W, HCUT2.out⟩
      have HCUT3 := Aside0.mk hcut3
      clear hcut3
      have hlv1 : lenV (.slice (some (ad.add (k * 3))) (m + 1) c) = m + 1 := rfl
      go_wp2
      go_loopw [5, 8] (fun s5 s8 wi => (s5 = .slice (some (ad.add (k * 3))) (m + 1) c ∧ s8 = .slice none 0 0 ∧ wi = w4) ∨ (∃ A' c' g8 c8, s5 = .slice A' m c' ∧ CutAt (some ad) (k + 1) m A' c' ∧ s8 = .slice (some ⟨g8, 0, none⟩) 1 c8 ∧ Aside0 ((Kd.int .i64).R 3 wi wo.heap.size (fun _ => True) (.slice (some ⟨g8, 0, none⟩) 1 c8) [st]) ∧ Aside0 (Kd.string.R 9 wi wo.heap.size (fun _ => True) (.slice (some ⟨g, 0, none⟩) first.length cg) (namesK first chg (k + 1))) ∧ Aside0 (Below wo.heap.size wo wi))) (fun s5 _ _ => lenV s5)
      case atStart => exact .inl ⟨rfl, rfl, rfl⟩
      case round =>
        rcases hrel with ⟨rfl, rfl, hwi⟩ | ⟨A', c', g8, c8, rfl, hcut', rfl, HV8, HV9, HB5⟩
        · rw [hwi]
          clear hwi
          go_wp2_with fail
          go_region
          have HV6 := Aside0.mk (Kd.R_drew HPUT.out.1)
          have HB6 : Aside0 (Below wo.heap.size wo (w4.setCell ⟨g, st.toNat, none⟩ (.string nm)).drew) := ⟨below_drew (below_set HB4.out hg0)⟩
          rw [← HNK.out] at HV6
          generalize (w4.setCell ⟨g, st.toNat, none⟩ (.string nm)).drew = w6 at HV6 HB6 ⊢
          clear y0 y1 y2 hc6a hc6b HPUT HV4
          have y1 : w6.cell? ⟨(ad.add (k * 3)).block, (ad.add (k * 3)).off + 1, none⟩ = some (.int .i64 st) := (HB6.out.cell (p := ⟨(ad.add (k * 3)).block, (ad.add (k * 3)).off + 1, none⟩) hadb).trans hx1
          have h60 := HB6.out.size
          go_wp2_with (at_builtin; refine Kd.R_append (Kd.int .i64) (w0 := wo) wo.heap.size rfl (.tmp 54) (.tmp 59) 34 3 (.int .i64 0) 8 rfl Try.underlying34 infoInt rfl (by decide) (by decide) (.slice none 0 0) [] st [.int .i64 st] (fun _ => True) (fun _ => False) rfl rfl rfl (fun _ hk => hk.elim) (fun _ _ => trivial) (Kd.R_nil _ _ _ _ _) HB6.out h60 (by simp) ?_; intro v1 w7 hv1 hb1 hg1 _; have HV7 := Aside0.mk (Kd.R_grown HV6.out hg1 (fun _ _ => by simp [Value.ownBlock])); have HV8 := Aside0.mk hv1; have HB7 := Aside0.mk hb1; clear hv1 hb1 hg1)
          obtain ⟨g8, c8, rfl, _⟩ := Kd.R_form HV8.out (by simp)
          go_roundw
          case rel => exact .inr ⟨A', c', g8, c8, rfl, HCUT3.out, rfl, HV8, HV7, HB7⟩
          case measure => show m < m + 1; omega
        · clear y0 y1 y2 hc6a hc6b HPUT HV4 hcut1 HCUT3
          have hcase : ¬ (0 : Int) < (m : Int) ∨ (0 : Int) < (m : Int) := by omega
          rcases hcase with hpos | hpos
          all_goals first
            | (have hneg : ¬ (0 : Int) < (m : Int) := hpos
               go_wp2_with fail)
            | (obtain ⟨ad2, e2, rfl⟩ : ∃ ad2, some ad = some ad2 ∧ A' = some (ad2.add ((k + 1) * 3)) := by
                 rcases hcut'.2 with h | h
                 · omega
                 · exact h
               obtain rfl : ad = ad2 := by injection e2
               have hlt2 : k + 1 < chg.length := by omega
               have hup2 := HUPC.out hlt2
               obtain ⟨ad', e', hz0, _, _⟩ := at_T32 (Kd.C_below (Kd.R_reads' HC5.out).2.2 HB5.out) ((k + 1 : Nat) : Int) (by omega) (by omega)
               obtain rfl : ad = ad' := by injection e'
               have hrd2 : rd_T32 chg ((k + 1 : Nat) : Int) = chg[k + 1] := getD_at chg (k + 1) _ hlt2
               simp only [hrd2, Int.toNat_natCast] at hz0
               clear hrd2 e' e2
               generalize chg[k + 1] = x2 at hup2 hz0
               obtain ⟨a2, st2, nm2⟩ := x2
               simp only at hup2 hz0
               go_wp2_with fail)
          all_goals
            refine (twins_int (some ⟨g8, 0, none⟩) c8 [st] wr (Kd.R_reads' HV8.out).2.2 (fun x hx => by have := List.mem_singleton.1 hx; subst this; exact WalkArith.wf_i64 (by omega)) (by simp)).mono ?_
            rintro e w10 ⟨v, rfl, _, hv, hb10⟩
            obtain rfl := hv (twins_nodup _ _ (by simp))
            clear hv
            have HV10 := Aside0.mk (Kd.R_below HV9.out hb10)
            have HB10 := Aside0.mk (below_step HB5.out hb10)
            clear hb10 HV9 HV8 HB5
            go_wp2
            go_loopw [4, 10, 66] (fun s4 _ s66 wi => s4 = .slice none 0 0 ∧ s66 = .int .i64 0 ∧ wi = w10) (fun _ _ _ _ => 0)
            case atStart => exact ⟨rfl, rfl, rfl⟩
            case round =>
              obtain ⟨rfl, rfl, hwi⟩ := hrel
              rw [hwi]
              clear hwi
              have htw := twins_str (some ⟨g, 0, none⟩) cg (namesK first chg (k + 1)) w10 (Kd.R_reads' HV10.out).2.2 (fun x hx => by have := (namesK_ok first chg HOK.out (k + 1) x hx).2.1; unfold maxLen; omega) (by rw [namesK_length]; omega)
              rw [namesK_length first chg (k + 1)] at htw
              have HTW := Lib.hid htw
              clear htw
              go_wp2_with fail
              refine HTW.out.mono ?_
              clear HTW
              rintro e w11 ⟨v, rfl, _, hv, hb11⟩
              obtain rfl := hv (twins_nodup _ _ (HNC.out (k + 1) (by omega)))
              clear hv
              have hl7 := Kd.S_lt HS.out g7 (by simp [Value.ownBlock])
              have HV11 := Aside0.mk (Kd.R_below HV10.out hb11)
              have HB11 := Aside0.mk (below_step HB10.out hb11)
              clear hb11 HV10 HB10
              have HS11 := Aside0.mk (Kd.S_old HS.out HB11.out)
              have HC11 := Aside0.mk (Kd.R_below HC5.out HB11.out)
              have BK11 := Aside0.mk (blk_below BK2.out HB11.out)
              have HBw11 := Aside0.mk (below_step HB.out HB11.out)
              have p2 : w11.cell? ⟨w.heap.size + 1, 2, none⟩ = some (.slice (some ⟨g7, 0, none⟩) (k + 1) c7) := (blk_cell BK11.out 2).trans rfl
              have h0o := HB.out.size
              have ho11 := HB11.out.size
              have hbl := bookPages_length first chg k hk
              clear HB HS HC5 BK2
              have HM11 := Aside0.mk (k100_mkM w11 w.heap.size (fun k_ => wo.heap.size ≤ k_) ⟨a, namesK first chg (k + 1)⟩ (Kd.R_lower (Kd.R_mono (Kd.R_bound HV11.out) (fun k_ hk_ => hk_.2.1)) h0o))
              have HSb := Aside0.mk (Kd.S_mono HS11.out (ok' := fun k_ => True ∧ ¬ wo.heap.size ≤ k_) (fun k_ hk_ => ⟨trivial, by have := hk_.2; omega⟩))
              have HTY := Aside0.mk (Kd.S_typed HS11.out)
              have hne7 := Kd.S_ne HS11.out BK11.out (by decide)
              go_wp2_with (at_builtin; refine Kd.S_append k100 (w0 := w) w.heap.size rfl (.tmp 91) (.tmp 95) 55 100 (.agg #[.int .i64 0, .slice none 0 0]) 32 rfl Try.underlying55 infoPage rfl (by decide) (by decide) (.slice (some ⟨g7, 0, none⟩) (k + 1) c7) (bookPages first chg k) ⟨a, namesK first chg (k + 1)⟩ [.int .i64 a, .slice (some ⟨g, 0, none⟩) first.length cg] (fun _ => True) (fun k_ => wo.heap.size ≤ k_) rfl rfl HM11.out (fun k_ hk_ => ⟨trivial, fun e_ => by have e2_ : k_ = g7 := (by simpa [Value.ownBlock] using e_); omega⟩) (fun _ _ => trivial) HSb.out HBw11.out (by omega) (by omega) ?_; intro v1 w12 ho hb hg _; obtain ⟨g9, c9, rfl, _⟩ := Kd.S_form ho (by simp); have HS12 := Aside0.mk ho; have HB12 := Aside0.mk hb; have BK12 := Aside0.mk (blk_grown BK11.out hg hne7); have HV12 := Aside0.mk (Kd.R_over' HV11.out HTY.out (by decide) hg); have HC12 := Aside0.mk (Kd.R_over' HC11.out HTY.out (by decide) hg); have p3 : w12.cell? ⟨w.heap.size + 1, 2, none⟩ = some (.slice (some ⟨g7, 0, none⟩) (k + 1) c7) := (blk_cell BK12.out 2).trans rfl; have p4 := blk_frozen BK12.out 2; clear ho hb hg)
              go_roundw
              case rel =>
                have hmk : chg.length - (k + 1) = m := by omega
                refine ⟨k + 1, by omega, rfl, ⟨_, c', by rw [hmk], by rw [hmk]; exact hcut'⟩, ⟨g, cg, rfl, ⟨Kd.R_set (Kd.R_lower HV12.out h0o) BK12.out (by decide) 2 _⟩⟩, ⟨Kd.R_set HC12.out BK12.out (by decide) 2 _⟩, ⟨g9, c9, ⟨blk_put BK12.out 2 _ rfl⟩, ⟨?_⟩⟩, ⟨below_set HB12.out (by omega)⟩⟩
                have h12 := HS12.out
                rw [← HBK.out, bookPages_length _ _ _ (by omega)] at h12
                exact Kd.S_set h12 BK12.out (by decide) 2 _
              case measure => show m < m + 1; omega
    · obtain rfl : k = chg.length := by omega
      rw [Nat.sub_self]
      have p0 : wo.cell? ⟨w.heap.size + 1, 0, none⟩ = some (.slice A1 first.length k1) := (blk_cell BK2.out 0).trans rfl
      have p1 : wo.cell? ⟨w.heap.size + 1, 1, none⟩ = some (.slice A2 chg.length k2) := (blk_cell BK2.out 1).trans rfl
      have p2 : wo.cell? ⟨w.heap.size + 1, 2, none⟩ = some (.slice (some ⟨g7, 0, none⟩) (chg.length + 1) c7) := (blk_cell BK2.out 2).trans rfl
      have f0 := blk_frozen BK2.out 0
      have f1 := blk_frozen BK2.out 1
      have f2 := blk_frozen BK2.out 2
      have BKe := Aside0.mk (blk_put (blk_put (blk_put BK2.out 0 (.slice A1 first.length k1) rfl) 1 (.slice A2 chg.length k2) rfl) 2 (.slice (some ⟨g7, 0, none⟩) (chg.length + 1) c7) rfl)
      have HSe := Aside0.mk (Kd.S_set (Kd.S_set (Kd.S_set HS.out BK2.out (by decide) 0 (.slice A1 first.length k1)) (blk_put BK2.out 0 (.slice A1 first.length k1) rfl) (by decide) 1 (.slice A2 chg.length k2)) (blk_put (blk_put BK2.out 0 (.slice A1 first.length k1) rfl) 1 (.slice A2 chg.length k2) rfl) (by decide) 2 (.slice (some ⟨g7, 0, none⟩) (chg.length + 1) c7))
      have HBe := Aside0.mk (below_set (g := w.heap.size + 1) (j := 2) (v := .slice (some ⟨g7, 0, none⟩) (chg.length + 1) c7) (below_set (g := w.heap.size + 1) (j := 1) (v := .slice A2 chg.length k2) (below_set (g := w.heap.size + 1) (j := 0) (v := .slice A1 first.length k1) HB.out (by omega)) (by omega)) (by omega))
      go_wp2
      refine bodyPost_ret (results_ctt rfl _ _ (w.heap.size + 1) _ _ (0, 0) _ rfl BKe.out Try.underlying57 rfl (by kernel_rfl)) rfl ?_
      exact ⟨_, _, rfl, HSe.out, HBe.out⟩
end Go.Proofs.Ytfbndhhogpacmaa
/-! street.open; slices.BinarySearchFunc over pages; (book).names. -/
namespace Go.Proofs.Ytfbndhhogpacmaa
open Go.RowKit Go.Shelf
open Go.Proofs.YtfbndhhogpacmaaW.PrintWords Go.Proofs.Ytfbndhhogpacmaa.T
set_option linter.unusedVariables false
set_option linter.unusedSimpArgs false
section
variable {α : Type} {d : Kd α} {e base g t : Nat} {ok : Nat → Prop} {v x y z a b c : Value} {xs : List α} {W w : World}
theorem blk_put3 (h : W.heap[g]? = some (.cells #[a, b, c] t (0, 0))) (x y z : Value) : (((W.setCell ⟨g, 0, none⟩ x).setCell ⟨g, 1, none⟩ y).setCell ⟨g, 2, none⟩ z).heap[g]? = some (.cells #[x, y, z] t (0, 0)) :=
  blk_put (blk_put (blk_put h 0 x rfl) 1 y rfl) 2 z rfl
theorem S_put3 (hS : d.S e W base ok v xs) (h : W.heap[g]? = some (.cells #[a, b, c] t (0, 0))) (ht : ∀ q, q ∈ e :: d.E → q ≠ t) (x y z : Value) : d.S e (((W.setCell ⟨g, 0, none⟩ x).setCell ⟨g, 1, none⟩ y).setCell ⟨g, 2, none⟩ z) base ok v xs :=
  Kd.S_set (Kd.S_set (Kd.S_set hS h ht 0 x) (blk_put h 0 x rfl) ht 1 y) (blk_put (blk_put h 0 x rfl) 1 y rfl) ht 2 z
theorem below_put3 (h : Below w.heap.size w W) (hg : w.heap.size ≤ g) (x y z : Value) : Below w.heap.size w (((W.setCell ⟨g, 0, none⟩ x).setCell ⟨g, 1, none⟩ y).setCell ⟨g, 2, none⟩ z) :=
  below_set (below_set (below_set h hg) hg) hg
end
set_option maxRecDepth 100000 in
set_option maxHeartbeats 2000000 in
theorem open_ok (A1 A2 : Option Addr) (k1 k2 : Nat) (first : List ByteArray) (chg : List S32) (w : World) (h1 : Kd.string.C w A1 first.length first) (h2 : k32.C w A2 chg.length chg) (ok : OkTown first chg) (nc : ∀ k ≤ chg.length, (namesK first chg k).Nodup) :
    Calls Try.prog 22 #[.agg #[.slice A1 first.length k1, .slice A2 chg.length k2]] w fun e w' => ∃ A3 c3, e = .returned (.tuple #[.agg #[.slice A1 first.length k1, .slice A2 chg.length k2, .slice A3 (chg.length + 1) c3], .int .i64 0]) ∧ k100.S 100 w' w.heap.size (fun _ => True) (.slice A3 (chg.length + 1) c3) (bookPages first chg chg.length) ∧ Below w.heap.size w w' := by
  have HCK := Lib.hid (fun W h1 h2 => Check_street A1 A2 k1 k2 first chg W h1 h2 ok)
  have HNB := Lib.hid (fun W h1 h2 => newBook_ok A1 A2 k1 k2 first chg W h1 h2 ok nc)
  have hq := eqlNil_int
  have hq2 := neqNil_int
  have H1 := Aside0.mk h1
  have H2 := Aside0.mk h2
  clear ok nc h1 h2
  go_enter Try.func22, Try.ntmps22
  go_wp2_with fail
  have K2 := blk_new (w.alloc (.cells #[.slice A1 first.length k1, .slice A2 chg.length k2] 27)) (.cells #[.slice none 0 0, .slice none 0 0, .slice none 0 0] 57)
  rw [World.size_alloc] at K2
  have K1 := blk_alloc (blk_new w (.cells #[.slice A1 first.length k1, .slice A2 chg.length k2] 27)) (.cells #[.slice none 0 0, .slice none 0 0, .slice none 0 0] 57)
  have HB0 := below_alloc (below_alloc (Below.refl w.heap.size w) (.cells #[.slice A1 first.length k1, .slice A2 chg.length k2] 27)) (.cells #[.slice none 0 0, .slice none 0 0, .slice none 0 0] 57)
  generalize (w.alloc (.cells #[.slice A1 first.length k1, .slice A2 chg.length k2] 27)).alloc (.cells #[.slice none 0 0, .slice none 0 0, .slice none 0 0] 57) = W0 at K1 K2 HB0 ⊢
  have BK1 := Aside0.mk K1
  have BK2 := Aside0.mk K2
  have HB := Aside0.mk HB0
  clear K1 K2 HB0
  refine (HCK.out W0 (Kd.C_below H1.out HB.out) (Kd.C_below H2.out HB.out)).mono ?_
  rintro e w1 ⟨rfl, hb1⟩
  replace BK1 := Aside0.mk (blk_below BK1.out hb1)
  replace BK2 := Aside0.mk (blk_below BK2.out hb1)
  replace HB := Aside0.mk (below_step HB.out hb1)
  have q1 : w1.cell? ⟨w.heap.size, 0, none⟩ = some (.slice A1 first.length k1) := (blk_cell BK1.out 0).trans rfl
  have q2 : w1.cell? ⟨w.heap.size, 1, none⟩ = some (.slice A2 chg.length k2) := (blk_cell BK1.out 1).trans rfl
  clear hb1
  go_wp2_with fail
  refine (HNB.out w1 (Kd.C_below H1.out HB.out) (Kd.C_below H2.out HB.out)).mono ?_
  rintro e w2 ⟨A3, c3, rfl, hS, hb2⟩
  have h1w := blk_lt BK2.out
  have h0w := HB.out.size
  have HS := Aside0.mk (Kd.S_lower hS h0w)
  replace BK2 := Aside0.mk (blk_below BK2.out hb2)
  replace HB := Aside0.mk (below_step HB.out hb2)
  have hl2 := blk_lt BK2.out
  have p0 : w2.cell? ⟨w.heap.size + 1, 0, none⟩ = some (.slice none 0 0) := (blk_cell BK2.out 0).trans rfl
  have p1 : w2.cell? ⟨w.heap.size + 1, 1, none⟩ = some (.slice none 0 0) := (blk_cell BK2.out 1).trans rfl
  have p2 : w2.cell? ⟨w.heap.size + 1, 2, none⟩ = some (.slice none 0 0) := (blk_cell BK2.out 2).trans rfl
  have f0 := blk_frozen BK2.out 0
  have f1 := blk_frozen BK2.out 1
  have f2 := blk_frozen BK2.out 2
  clear hS hb2 q1 q2
  go_wp2
  have BKa := blk_put3 BK2.out (.slice A1 first.length k1) (.slice A2 chg.length k2) (.slice A3 (chg.length + 1) c3)
  refine bodyPost_ret (results_ct rfl _ _ (w.heap.size + 1) _ _ (0, 0) _ rfl (blk_put3 BKa (.slice A1 first.length k1) (.slice A2 chg.length k2) (.slice A3 (chg.length + 1) c3)) Try.underlying57 rfl (by kernel_rfl)) rfl ?_
  exact ⟨_, _, rfl, S_put3 (S_put3 HS.out BK2.out (by decide) _ _ _) BKa (by decide) _ _ _, below_put3 (below_put3 HB.out (by omega) _ _ _) (by omega) _ _ _⟩
theorem names1_cmp (a h : Int) (A : Option Addr) (n c : Nat) (w : World) :
    Calls Try.prog 45 #[.agg #[.int .i64 a, .slice A n c], .int .i64 h] w fun e w' => e = .returned (.int .i64 (cmpZ a h)) ∧ Below w.heap.size w w' := by
  have HN := Lib.hid Compare_int
  go_enter Try.func45, Try.ntmps45
  go_wp2_with (go_at_call 37; refine (HN.out _ _ _).mono ?_; rintro e w' ⟨rfl, rfl⟩)
  go_ret
  exact ⟨rfl, (Below.refl _ w).alloc (Nat.le_refl _) _⟩
/-- Number L is where h belongs among pages. -/
structure IsBs (P : List S100) (h : Int) (L : Nat) : Prop where
  le : L ≤ P.length
  lo : ∀ i (hi : i < P.length), i < L → P[i].f0 < h
  hi : ∀ i (hi : i < P.length), L ≤ i → h ≤ P[i].f0
def foundB (P : List S100) (h : Int) (L : Nat) : Bool := match P[L]? with
  | some p => decide (p.f0 = h)
  | none => false
set_option maxRecDepth 100000 in
set_option maxHeartbeats 2000000 in
theorem bsearch (A : Option Addr) (c : Nat) (P : List S100) (w : World) (hC : k100.C w A P.length P) (hlen : P.length ≤ 9) (hup : P.Pairwise fun a b => a.f0 < b.f0) (h : Int) :
    Calls Try.prog 44 #[.slice A P.length c, .int .i64 h, .func (.func 45) #[] #[]] w fun e w' => ∃ L : Nat, e = .returned (.tuple #[.int .i64 L, .bool (foundB P h L)]) ∧ IsBs P h L ∧ Below w.heap.size w w' := by
  have HC := Aside0.mk hC
  have HUP := Aside0.mk hup
  have HN := Lib.hid names1_cmp
  clear hC hup
  go_enter Try.func44, Try.ntmps44
  go_wp2
  go_loopw [9, 10, 11] (fun s9 s10 _ wr => ∃ i j : Nat, i ≤ j ∧ j ≤ P.length ∧ s9 = .int .i64 i ∧ s10 = .int .i64 j ∧ Aside0 (∀ k (hk : k < P.length), k < i → P[k].f0 < h) ∧ Aside0 (∀ k (hk : k < P.length), j ≤ k → h ≤ P[k].f0) ∧ Aside0 (Below w.heap.size w wr)) (fun s9 s10 _ _ => (intOf s10).toNat - (intOf s9).toNat)
  case atStart => exact ⟨0, P.length, Nat.zero_le _, Nat.le_refl _, rfl, rfl, ⟨fun k _ hk => by omega⟩, ⟨fun k h1 h2 => by omega⟩, ⟨Below.refl _ _⟩⟩
  case round =>
    obtain ⟨i, j, hij, hj, rfl, rfl, HA, HZ, HB⟩ := hrel
    by_cases hlt : i < j
    · have hltz : (i : Int) < (j : Int) := by omega
      obtain ⟨m, hm, him, hmj⟩ : ∃ m : Nat, ((i : Int) + (j : Int)) / 2 = (m : Int) ∧ i ≤ m ∧ m < j := ⟨(i + j) / 2, by omega, by omega, by omega⟩
      obtain ⟨ad, Ax, cx, eA, hc0, hc1, _, _⟩ := at_T100 (Kd.C_below HC.out HB.out) (m : Int) (by omega) (by omega)
      have hmP : m < P.length := by omega
      have hrd : rd_T100 P (m : Int) = P[m] := getD_at P m _ hmP
      simp only [hrd, Int.toNat_natCast] at hc0 hc1
      have hup := fun k (hk : k < P.length) => List.pairwise_iff_getElem.1 HUP.out k m hk hmP
      have hdn := fun k (hk : k < P.length) => List.pairwise_iff_getElem.1 HUP.out m k hmP hk
      have HU := Aside0.mk hup
      have HD := Aside0.mk hdn
      subst eA
      clear hrd hup hdn
      generalize hx : P[m] = x at hc0 hc1 HU HD
      have HX := Aside0.mk hx
      clear hx
      have hm0 : (m : Int) < (P.length : Int) := by omega
      have hmp : (0 : Int) ≤ (m : Int) := by omega
      by_cases hcm : x.f0 < h
      · have hz : cmpZ x.f0 h = -1 := by unfold cmpZ; rw [if_pos hcm]
        go_wp2_with fail
        refine (HN.out _ _ _ _ _ _).mono ?_
        rw [hz]
        rintro e w1 ⟨rfl, hb1⟩
        go_wp2
        go_roundw
        case rel =>
          refine ⟨m + 1, j, by omega, hj, by go_num, rfl, ⟨fun k hk hkm => ?_⟩, HZ, ⟨HB.out.trans (hb1.mono HB.out.size)⟩⟩
          rcases Nat.lt_or_ge k m with h1 | h1
          · exact Int.lt_trans (HU.out k hk h1) hcm
          · obtain rfl : k = m := by omega
            rw [HX.out]
            exact hcm
        case measure => simp [intOf]; omega
      · obtain ⟨z, hz, hz2⟩ : ∃ z, cmpZ x.f0 h = z ∧ ¬ z < 0 := by
          refine ⟨_, rfl, ?_⟩
          unfold cmpZ
          rw [if_neg hcm]
          by_cases h2 : h < x.f0 <;> simp [h2]
        go_wp2_with fail
        refine (HN.out _ _ _ _ _ _).mono ?_
        rw [hz]
        rintro e w1 ⟨rfl, hb1⟩
        clear hz
        go_wp2
        go_roundw
        case rel =>
          refine ⟨i, m, him, by omega, rfl, rfl, HA, ⟨fun k hk hkm => ?_⟩, ⟨HB.out.trans (hb1.mono HB.out.size)⟩⟩
          rcases Nat.lt_or_ge m k with h1 | h1
          · have := HD.out k hk h1
            omega
          · obtain rfl : k = m := by omega
            rw [HX.out]
            omega
        case measure => simp [intOf]; omega
    · obtain rfl : i = j := by omega
      have hltz : ¬ (i : Int) < (i : Int) := by omega
      by_cases hin : i < P.length
      · have hinz : (i : Int) < (P.length : Int) := by omega
        have hinz0 : (0 : Int) ≤ (i : Int) := by omega
        obtain ⟨ad, Ax, cx, eA, hc0, hc1, _, _⟩ := at_T100 (Kd.C_below HC.out HB.out) (i : Int) (by omega) (by omega)
        have hrd : rd_T100 P (i : Int) = P[i] := getD_at P i _ hin
        simp only [hrd, Int.toNat_natCast] at hc0 hc1
        subst eA
        have hge := HZ.out i hin (Nat.le_refl _)
        clear hrd
        generalize hx : P[i] = x at hc0 hc1 hge
        have HX := Aside0.mk hx
        clear hx
        have hz : (cmpZ x.f0 h == 0) = decide (x.f0 = h) := by
          unfold cmpZ
          rw [if_neg (by omega)]
          by_cases h2 : h < x.f0
          · rw [if_pos h2]; simp; omega
          · rw [if_neg h2]; simp; omega
        have HZ2 := Aside0.mk hz
        clear hz
        go_wp2_with fail
        refine (HN.out _ _ _ _ _ _).mono ?_
        generalize cmpZ x.f0 h = z at HZ2 ⊢
        rintro e w1 ⟨rfl, hb1⟩
        go_wp2
        go_ret2
        refine ⟨i, ?_, ⟨by omega, HA.out, HZ.out⟩, HB.out.trans (hb1.mono HB.out.size)⟩
        have hf : foundB P h i = (z == 0) := by
          unfold foundB
          rw [List.getElem?_eq_getElem hin, HX.out, HZ2.out]
        rw [hf]
        rfl
      · have hinz : ¬ (i : Int) < (P.length : Int) := by omega
        have hf : foundB P h i = false := by
          unfold foundB
          rw [List.getElem?_eq_none (by omega)]
        have HF := Aside0.mk hf
        clear hf
        go_wp2
        go_ret2
        exact ⟨i, by rw [HF.out]; rfl, ⟨by omega, HA.out, HZ.out⟩, HB.out⟩
end Go.Proofs.Ytfbndhhogpacmaa
/-! (book).names; street.Name. -/
namespace Go.Proofs.Ytfbndhhogpacmaa
open Go.RowKit Go.Shelf
open Go.Proofs.YtfbndhhogpacmaaW.PrintWords Go.Proofs.Ytfbndhhogpacmaa.T
set_option linter.unusedVariables false
set_option linter.unusedSimpArgs false
/-- How many changes there are up to an hour. -/
def cntLe (chg : List S32) (h : Int) : Nat := chg.countP fun c => decide (c.f0 ≤ h)
theorem cntLe_le (chg : List S32) (h : Int) : cntLe chg h ≤ chg.length := List.countP_le_length
theorem cntLe_eq (chg : List S32) (h : Int) (j : Nat) (hj : j ≤ chg.length) (lo : ∀ i (hi : i < chg.length), i < j → chg[i].f0 ≤ h) (up : ∀ i (hi : i < chg.length), j ≤ i → h < chg[i].f0) : cntLe chg h = j := by
  unfold cntLe
  rw [← List.take_append_drop j chg, List.countP_append]
  have h1 : (chg.take j).countP (fun c => decide (c.f0 ≤ h)) = (chg.take j).length := by
    rw [List.countP_eq_length]
    intro c hc
    obtain ⟨i, hi, rfl⟩ := List.getElem_of_mem hc
    rw [List.length_take] at hi
    rw [List.getElem_take]
    simpa using lo i (by omega) (by omega)
  have h2 : (chg.drop j).countP (fun c => decide (c.f0 ≤ h)) = 0 := by
    rw [List.countP_eq_zero]
    intro c hc
    obtain ⟨i, hi, rfl⟩ := List.getElem_of_mem hc
    rw [List.length_drop] at hi
    rw [List.getElem_drop]
    have := up (j + i) (by omega) (by omega)
    simp; omega
  rw [h1, h2, List.length_take]
  omega
def atK (chg : List S32) (j : Nat) : Int := match j with
  | 0 => 0
  | j + 1 => match chg[j]? with
    | some c => c.f0
    | none => 0
theorem pages_get (first : List ByteArray) (chg : List S32) (n j : Nat) (hn : n ≤ chg.length) (hj : j ≤ n) : (bookPages first chg n)[j]? = some ⟨atK chg j, namesK first chg j⟩ := by
  induction n with
  | zero =>
    obtain rfl : j = 0 := by omega
    rfl
  | succ n ih =>
    rw [bookPages_succ _ _ _ (by omega)]
    have hl := bookPages_length first chg n (by omega)
    rcases Nat.lt_or_ge j (n + 1) with h | h
    · rw [List.getElem?_append_left (by omega)]
      exact ih (by omega) (by omega)
    · obtain rfl : j = n + 1 := by omega
      rw [List.getElem?_append_right (by omega), hl, Nat.sub_self]
      simp only [List.getElem?_cons_zero, atK]
      rw [List.getElem?_eq_getElem (by omega)]
theorem pages_getElem (first : List ByteArray) (chg : List S32) (j : Nat) (hj : j < (bookPages first chg chg.length).length) : (bookPages first chg chg.length)[j] = ⟨atK chg j, namesK first chg j⟩ := by
  have hl := bookPages_length first chg chg.length (Nat.le_refl _)
  have := pages_get first chg chg.length j (Nat.le_refl _) (by omega)
  rw [List.getElem?_eq_getElem hj] at this
  injection this
theorem atK_up (first : List ByteArray) (chg : List S32) (ok : OkTown first chg) (i j : Nat) (hij : i < j) (hj : j ≤ chg.length) : atK chg i < atK chg j := by
  cases j with
  | zero => omega
  | succ j =>
    have e1 : atK chg (j + 1) = chg[j].f0 := by simp only [atK]; rw [List.getElem?_eq_getElem (by omega)]
    rw [e1]
    cases i with
    | zero => have := (ok.ch chg[j] (List.getElem_mem _)).at1; show (0 : Int) < _; omega
    | succ i =>
      have e2 : atK chg (i + 1) = chg[i].f0 := by simp only [atK]; rw [List.getElem?_eq_getElem (by omega)]
      rw [e2]
      exact List.pairwise_iff_getElem.1 ok.up i j (by omega) (by omega) (by omega)
theorem pages_up (first : List ByteArray) (chg : List S32) (ok : OkTown first chg) : (bookPages first chg chg.length).Pairwise fun a b => a.f0 < b.f0 := by
  have hl := bookPages_length first chg chg.length (Nat.le_refl _)
  rw [List.pairwise_iff_getElem]
  intro i j hi hj hij
  rw [pages_getElem, pages_getElem]
  exact atK_up first chg ok i j hij (by omega)
/-- The page that holds in an hour. -/
theorem page_of (first : List ByteArray) (chg : List S32) (ok : OkTown first chg) (h : Int) (h0 : 0 ≤ h) (L : Nat) (hL : IsBs (bookPages first chg chg.length) h L) :
    (foundB (bookPages first chg chg.length) h L = true ∧ L = cntLe chg h) ∨ (foundB (bookPages first chg chg.length) h L = false ∧ L = cntLe chg h + 1) := by
  have hl := bookPages_length first chg chg.length (Nat.le_refl _)
  have hle := hL.le
  rw [hl] at hle
  have hlo : ∀ i, i ≤ chg.length → i < L → atK chg i < h := fun i hi hiL => by
    have := hL.lo i (by omega) hiL
    rwa [pages_getElem] at this
  have hhi : ∀ i, i ≤ chg.length → L ≤ i → h ≤ atK chg i := fun i hi hiL => by
    have := hL.hi i (by omega) hiL
    rwa [pages_getElem] at this
  have hat : ∀ i (hi : i < chg.length), chg[i].f0 = atK chg (i + 1) := fun i hi => by simp only [atK]; rw [List.getElem?_eq_getElem hi]
  by_cases hf : L ≤ chg.length ∧ atK chg L = h
  · left
    refine ⟨?_, (cntLe_eq chg h L hf.1 (fun i hi hiL => ?_) (fun i hi hiL => ?_)).symm⟩
    · unfold foundB
      rw [pages_get _ _ _ _ (Nat.le_refl _) hf.1]
      simpa using hf.2
    · rw [hat i hi, ← hf.2]
      rcases Nat.lt_or_ge (i + 1) L with h1 | h1
      · exact Int.le_of_lt (atK_up first chg ok (i + 1) L h1 hf.1)
      · obtain rfl : i + 1 = L := by omega
        exact Int.le_refl _
    · rw [hat i hi, ← hf.2]
      exact atK_up first chg ok L (i + 1) (by omega) (by omega)
  · right
    have hL0 : 0 < L := by
      rcases Nat.eq_zero_or_pos L with h1 | h1
      · exfalso
        subst h1
        have := hhi 0 (Nat.zero_le _) (Nat.le_refl _)
        exact hf ⟨Nat.zero_le _, by show (0 : Int) = h; have : h ≤ (0 : Int) := this; omega⟩
      · exact h1
    refine ⟨?_, ?_⟩
    · unfold foundB
      by_cases h1 : L ≤ chg.length
      · rw [pages_get _ _ _ _ (Nat.le_refl _) h1]
        simp only [decide_eq_false_iff_not]
        exact fun h2 => hf ⟨h1, h2⟩
      · rw [List.getElem?_eq_none (by omega)]
    · have := cntLe_eq chg h (L - 1) (by omega) (fun i hi hiL => ?_) (fun i hi hiL => ?_)
      · omega
      · rw [hat i hi]
        exact Int.le_of_lt (hlo (i + 1) (by omega) (by omega))
      · rw [hat i hi]
        have h1 := hhi (i + 1) (by omega) (by omega)
        rcases Int.lt_or_eq_of_le h1 with h2 | h2
        · exact h2
        · exfalso
          rcases Nat.lt_or_ge L (i + 1) with h3 | h3
          · have h4 := atK_up first chg ok L (i + 1) h3 (by omega)
            have h5 := hhi L (by omega) (Nat.le_refl _)
            omega
          · obtain rfl : L = i + 1 := by omega
            exact hf ⟨by omega, h2.symm⟩
set_option maxRecDepth 100000 in
set_option maxHeartbeats 2000000 in
theorem names_ok (A1 A2 A3 : Option Addr) (k1 k2 c3 : Nat) (first : List ByteArray) (chg : List S32) (w : World) (hC : k100.C w A3 (chg.length + 1) (bookPages first chg chg.length)) (ok : OkTown first chg) (h : Int) (h0 : 0 ≤ h) :
    Calls Try.prog 26 #[.agg #[.slice A1 first.length k1, .slice A2 chg.length k2, .slice A3 (chg.length + 1) c3], .int .i64 h] w fun e w' => ∃ A c, e = .returned (.slice A first.length c) ∧ first.length ≤ c ∧ Kd.string.C w' A first.length (namesK first chg (cntLe chg h)) ∧ Below w.heap.size w w' := by
  have hl := bookPages_length first chg chg.length (Nat.le_refl _)
  have hc1 := ok.c1
  have HOK := Aside0.mk ok
  have HC := Aside0.mk hC
  have B0 : Below w.heap.size w (w.alloc (.cells #[.slice A1 first.length k1, .slice A2 chg.length k2, .slice A3 (chg.length + 1) c3] 57)) := (Below.refl _ w).alloc (Nat.le_refl _) _
  have hbs := bsearch A3 c3 (bookPages first chg chg.length) (w.alloc (.cells #[.slice A1 first.length k1, .slice A2 chg.length k2, .slice A3 (chg.length + 1) c3] 57)) (by rw [hl]; exact Kd.C_below hC B0) (by omega) (pages_up first chg ok) h
  rw [hl] at hbs
  have HBS := Lib.hid hbs
  clear hbs hl ok hC
  have HB0 := Aside0.mk B0
  clear B0
  go_enter Try.func26, Try.ntmps26
  go_wp2_with fail
  refine HBS.out.mono ?_
  rintro e w1 ⟨L, rfl, hL, hb⟩
  have HB1 := Aside0.mk (HB0.out.trans (hb.mono HB0.out.size))
  have q3 : w1.cell? ⟨w.heap.size, 2, none⟩ = some (.slice A3 (chg.length + 1) c3) := (hb.cell (p := ⟨w.heap.size, 2, none⟩) (by simp)).trans (by simp)
  have hpg := page_of first chg HOK.out h h0 L hL
  have hcl := cntLe_le chg h
  clear hb hL HBS
  have hnl := namesK_length first chg (cntLe chg h)
  obtain ⟨ad, Ax, cx, eA, hc0, hcc, hlx, hCx⟩ := at_T100 (Kd.C_below HC.out HB1.out) ((cntLe chg h : Nat) : Int) (by omega) (by omega)
  have hrd : rd_T100 (bookPages first chg chg.length) ((cntLe chg h : Nat) : Int) = ⟨atK chg (cntLe chg h), namesK first chg (cntLe chg h)⟩ := by
    have := pages_get first chg chg.length (cntLe chg h) (Nat.le_refl _) hcl
    unfold rd_T100
    rw [List.getD_eq_getElem?_getD, Int.toNat_natCast, this]
    rfl
  rw [hrd] at hc0 hcc hlx hCx
  simp only [Int.toNat_natCast, hnl] at hc0 hcc hlx hCx
  have HCx := Aside0.mk hCx
  subst eA
  clear hrd hCx hnl hc0 HC
  generalize hk : cntLe chg h = k at hpg hcl HCx hcc
  have HK := Aside0.mk hk
  clear hk
  rcases hpg with ⟨hf, rfl⟩ | ⟨hf, rfl⟩
  · rw [hf]
    clear hf
    go_wp2
    go_ret
    exact ⟨Ax, cx, rfl, hlx, by rw [HK.out]; exact HCx.out, HB1.out⟩
  · rw [hf]
    clear hf
    go_wp2
    go_ret
    exact ⟨Ax, cx, rfl, hlx, by rw [HK.out]; exact HCx.out, HB1.out⟩
end Go.Proofs.Ytfbndhhogpacmaa
/-! street.Name. -/
namespace Go.Proofs.Ytfbndhhogpacmaa
open Go.RowKit Go.Shelf
open Go.Proofs.YtfbndhhogpacmaaW.PrintWords Go.Proofs.Ytfbndhhogpacmaa.T
set_option linter.unusedVariables false
set_option linter.unusedSimpArgs false
/-- A town whose changes do not clash. -/
structure GoodTown (first : List ByteArray) (chg : List S32) : Prop where
  ok : OkTown first chg
  nc : ∀ k ≤ chg.length, (namesK first chg k).Nodup
/-- How a street is called in an hour. -/
def nameAt (first : List ByteArray) (chg : List S32) (s h : Int) : ByteArray := (namesK first chg (cntLe chg h)).getD s.toNat ByteArray.empty
set_option maxRecDepth 100000 in
set_option maxHeartbeats 2000000 in
theorem Name_ok (A1 A2 : Option Addr) (k1 k2 : Nat) (first : List ByteArray) (chg : List S32) (good : GoodTown first chg) (s h : Int) (hs0 : 0 ≤ s) (hs1 : s < first.length) (h0 : 0 ≤ h) (h1 : h ≤ 1000) (w : World) (hC1 : Kd.string.C w A1 first.length first) (hC2 : k32.C w A2 chg.length chg) :
    Calls Try.prog 18 #[.agg #[.slice A1 first.length k1, .slice A2 chg.length k2], .int .i64 s, .int .i64 h] w fun e w' => e = .returned (.tuple #[.string (nameAt first chg s h), .int .i64 0]) ∧ Below w.heap.size w w' := by
  have hn2 := good.ok.n2
  have B0 : Below w.heap.size w (w.alloc (.cells #[.slice A1 first.length k1, .slice A2 chg.length k2] 27)) := (Below.refl _ w).alloc (Nat.le_refl _) _
  have HO := Lib.hid (open_ok A1 A2 k1 k2 first chg _ (Kd.C_below hC1 B0) (Kd.C_below hC2 B0) good.ok good.nc)
  have HNM := Lib.hid (fun A3 c3 W hC => names_ok A1 A2 A3 k1 k2 c3 first chg W hC good.ok h h0)
  have HB0 := Aside0.mk B0
  have hnl := namesK_length first chg (cntLe chg h)
  clear B0 hC1 hC2 good
  go_enter Try.func18, Try.ntmps18
  go_wp2_with fail
  refine HO.out.mono ?_
  rintro e w1 ⟨A3, c3, rfl, hS, hb⟩
  have HB1 := Aside0.mk (HB0.out.trans (hb.mono HB0.out.size))
  have q0 : w1.cell? ⟨w.heap.size, 0, none⟩ = some (.slice A1 first.length k1) := (hb.cell (p := ⟨w.heap.size, 0, none⟩) (by simp)).trans (by simp)
  have hw1 : w.heap.size < w1.heap.size := Nat.lt_of_lt_of_le (by simp) hb.size
  have hC3 := (Kd.S_reads' hS).2.2
  rw [bookPages_length _ _ _ (Nat.le_refl _)] at hC3
  have HC3 := Aside0.mk hC3
  have hz : s ≤ (first.length : Int) - 1 := by omega
  clear hS hb hC3 HO
  go_wp2_with fail
  refine (within_street_1y _ _ _ _ _ hs0 hz (by simp)).mono ?_
  rintro e w2 ⟨rfl, hb2⟩
  have hBb := ((below_alloc (Below.refl w1.heap.size w1) (.cells #[.slice A1 first.length k1, .slice A2 chg.length k2, .slice A3 (chg.length + 1) c3] 57)).alloc (by simp) (.cells #[.int .i64 s] 3)).trans (hb2.mono (by simp; omega))
  have r0 : w2.cell? ⟨w1.heap.size, 0, none⟩ = some (.slice A1 first.length k1) := (hb2.cell (p := ⟨w1.heap.size, 0, none⟩) (by simp; omega)).trans (by simp)
  have r1 : w2.cell? ⟨w1.heap.size, 1, none⟩ = some (.slice A2 chg.length k2) := (hb2.cell (p := ⟨w1.heap.size, 1, none⟩) (by simp; omega)).trans (by simp)
  have r2 : w2.cell? ⟨w1.heap.size, 2, none⟩ = some (.slice A3 (chg.length + 1) c3) := (hb2.cell (p := ⟨w1.heap.size, 2, none⟩) (by simp; omega)).trans (by simp)
  have hw2 : w1.heap.size < w2.heap.size := Nat.lt_of_lt_of_le (by simp; omega) hb2.size
  have HB2 := Aside0.mk (HB1.out.trans (hBb.mono HB1.out.size))
  have HC32 := Aside0.mk (Kd.C_below HC3.out hBb)
  clear hb2 hBb HB1 HC3
  go_wp2_with fail
  refine (isHour_yes h h0 h1 _).mono ?_
  rintro e w3 ⟨rfl, hb3⟩
  have s0 : w3.cell? ⟨w1.heap.size, 0, none⟩ = some (.slice A1 first.length k1) := (hb3.cell (p := ⟨w1.heap.size, 0, none⟩) hw2).trans r0
  have s1 : w3.cell? ⟨w1.heap.size, 1, none⟩ = some (.slice A2 chg.length k2) := (hb3.cell (p := ⟨w1.heap.size, 1, none⟩) hw2).trans r1
  have s2 : w3.cell? ⟨w1.heap.size, 2, none⟩ = some (.slice A3 (chg.length + 1) c3) := (hb3.cell (p := ⟨w1.heap.size, 2, none⟩) hw2).trans r2
  have HB3 := Aside0.mk (HB2.out.trans (hb3.mono HB2.out.size))
  have HC33 := Aside0.mk (Kd.C_below HC32.out hb3)
  clear hb3 HB2 HC32 r0 r1 r2
  go_wp2_with fail
  refine (HNM.out A3 c3 w3 HC33.out).mono ?_
  rintro e w4 ⟨A4, c4, rfl, _, hC4, hb4⟩
  have hC4' := hC4
  rw [← hnl] at hC4'
  obtain ⟨ad, eA, hcell⟩ := C_str_at hC4 s.toNat (by omega)
  subst eA
  have HB4 := Aside0.mk (HB3.out.trans (hb4.mono HB3.out.size))
  clear hC4 hC4' hb4 hnl
  have hcell' : w4.cell? (ad.add s.toNat) = some (.string (nameAt first chg s h)) := hcell
  generalize hnm : nameAt first chg s h = nm at hcell'
  have HNMX := Aside0.mk hnm
  clear hcell hnm
  go_wp2
  go_ret2
  exact ⟨by rw [HNMX.out]; rfl, HB4.out⟩
end Go.Proofs.Ytfbndhhogpacmaa
/-! (book).must at orders that are valid. -/
namespace Go.Proofs.Ytfbndhhogpacmaa
open Go.RowKit Go.Shelf
open Go.Proofs.YtfbndhhogpacmaaW.PrintWords Go.Proofs.Ytfbndhhogpacmaa.T
set_option linter.unusedVariables false
set_option linter.unusedSimpArgs false
theorem strNe {a b : ByteArray} (h : ¬ a = b) : (a.toList == b.toList) = false := by
  rw [beq_eq_false_iff_ne]
  intro e
  rw [ByteArray.toList_eq, ByteArray.toList_eq] at e
  have e2 := Array.toList_inj.1 e
  cases a
  cases b
  exact h (congrArg ByteArray.mk e2)
end Go.Proofs.Ytfbndhhogpacmaa

