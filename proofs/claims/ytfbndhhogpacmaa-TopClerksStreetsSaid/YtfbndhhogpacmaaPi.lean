import Derived.Test.YtfbndhhogpacmaaPh
import Derived.Deep.CutBlock
/-! file.Merge. -/
namespace Go.Proofs.Ytfbndhhogpacmaa
open Go.RowKit Go.Shelf
open Go.Proofs.YtfbndhhogpacmaaW.PrintWords Go.Proofs.Ytfbndhhogpacmaa.T
set_option linter.unusedVariables false
set_option linter.unusedSimpArgs false
abbrev Ent := ByteArray × Bool
def entV (x : Ent) : Value := .agg #[.string x.1, .bool x.2]
def entEq (x y : Ent) : Bool := (x.1.toList == y.1.toList) && (x.2 == y.2)
/-- What becomes of a number: (what stands there, whether it clashes). -/
def mrg (x p q : Ent) : Ent × Bool := if entEq p q || entEq q x then (p, false) else if entEq p x then (q, false) else (x, true)
def mLines (f0 f1 f2 : ShF) (k : Nat) : List S48 := (List.range k).filterMap fun i => if (mrg (f0 i) (f1 i) (f2 i)).1.2 then some ⟨(i : Int), (mrg (f0 i) (f1 i) (f2 i)).1.1⟩ else none
def mClash (f0 f1 f2 : ShF) (k : Nat) : List Int := (List.range k).filterMap fun i => if (mrg (f0 i) (f1 i) (f2 i)).2 then some (i : Int) else none
theorem mLines_succ (f0 f1 f2 : ShF) (k : Nat) : mLines f0 f1 f2 (k + 1) = mLines f0 f1 f2 k ++ if (mrg (f0 k) (f1 k) (f2 k)).1.2 then [⟨(k : Int), (mrg (f0 k) (f1 k) (f2 k)).1.1⟩] else [] := by
  unfold mLines
  rw [List.range_succ, List.filterMap_append]
  congr 1
  rw [List.filterMap_cons, List.filterMap_nil]
  split <;> simp_all
theorem mClash_succ (f0 f1 f2 : ShF) (k : Nat) : mClash f0 f1 f2 (k + 1) = mClash f0 f1 f2 k ++ if (mrg (f0 k) (f1 k) (f2 k)).2 then [(k : Int)] else [] := by
  unfold mClash
  rw [List.range_succ, List.filterMap_append]
  congr 1
  rw [List.filterMap_cons, List.filterMap_nil]
  split <;> simp_all
/-- What a round of Merge keeps. -/
structure MSt (w : World) (g0 g1 g2 : Nat) (cs0 cs1 cs2 : Array Value) (W : World) (v6 v7 : Value) (L : List S48) (Q : List Int) : Prop where
  hl : k48.R 48 W w.heap.size (fun _ => True) v6 L
  hq : (Kd.int .i64).R 3 W w.heap.size (fun _ => True) v7 Q
  k0 : W.heap[g0]? = some (.cells cs0 110 (0, 0))
  k1 : W.heap[g1]? = some (.cells cs1 110 (0, 0))
  k2 : W.heap[g2]? = some (.cells cs2 110 (0, 0))
  bl : Below w.heap.size w W
section
variable {w W W' : World} {g0 g1 g2 : Nat} {cs0 cs1 cs2 : Array Value} {v6 v7 : Value} {L : List S48} {Q : List Int}
theorem MSt.below (h : MSt w g0 g1 g2 cs0 cs1 cs2 W v6 v7 L Q) (hb : Below W.heap.size W W') : MSt w g0 g1 g2 cs0 cs1 cs2 W' v6 v7 L Q :=
  ⟨Kd.R_below h.hl hb, Kd.R_below h.hq hb, blk_below h.k0 hb, blk_below h.k1 hb, blk_below h.k2 hb, below_step h.bl hb⟩
theorem MSt.set1 (h : MSt w g0 g1 g2 cs0 cs1 cs2 W v6 v7 L Q) {bx : Nat} {cs : Array Value} (hx : W.heap[bx]? = some (.cells cs 80 (0, 0))) (hw : w.heap.size ≤ bx) (j : Nat) (u : Value) : MSt w g0 g1 g2 cs0 cs1 cs2 (W.setCell ⟨bx, j, none⟩ u) v6 v7 L Q :=
  ⟨Kd.R_set h.hl hx (by decide) j u, Kd.R_set h.hq hx (by decide) j u, blk_far h.k0 (blk_ne h.k0 hx (by decide)) u, blk_far h.k1 (blk_ne h.k1 hx (by decide)) u, blk_far h.k2 (blk_ne h.k2 hx (by decide)) u, below_set h.bl hw⟩
theorem MSt.set (h : MSt w g0 g1 g2 cs0 cs1 cs2 W v6 v7 L Q) {bx : Nat} {a b : Value} (hx : W.heap[bx]? = some (.cells #[a, b] 80 (0, 0))) (hw : w.heap.size ≤ bx) (u v : Value) : MSt w g0 g1 g2 cs0 cs1 cs2 ((W.setCell ⟨bx, 0, none⟩ u).setCell ⟨bx, 1, none⟩ v) v6 v7 L Q :=
  (h.set1 hx hw 0 u).set1 (blk_put hx 0 u rfl) hw 1 v
theorem MSt.lines (h : MSt w g0 g1 g2 cs0 cs1 cs2 W v6 v7 L Q) {v : Value} {L' : List S48} (ho : k48.R 48 W' w.heap.size (fun _ => True) v L') (hb : Below w.heap.size w W') (hg : W.grownBy W' v6.ownBlock) : MSt w g0 g1 g2 cs0 cs1 cs2 W' v v7 L' Q :=
  ⟨ho, Kd.R_over' h.hq (Kd.R_typed h.hl) (by decide) hg, blk_grown h.k0 hg (Kd.R_ne h.hl h.k0 (by decide)), blk_grown h.k1 hg (Kd.R_ne h.hl h.k1 (by decide)), blk_grown h.k2 hg (Kd.R_ne h.hl h.k2 (by decide)), hb⟩
theorem MSt.clash (h : MSt w g0 g1 g2 cs0 cs1 cs2 W v6 v7 L Q) {v : Value} {Q' : List Int} (ho : (Kd.int .i64).R 3 W' w.heap.size (fun _ => True) v Q') (hb : Below w.heap.size w W') (hg : W.grownBy W' v7.ownBlock) : MSt w g0 g1 g2 cs0 cs1 cs2 W' v6 v L Q' :=
  ⟨Kd.R_over' h.hl (Kd.R_typed h.hq) (by decide) hg, ho, blk_grown h.k0 hg (Kd.R_ne h.hq h.k0 (by decide)), blk_grown h.k1 hg (Kd.R_ne h.hq h.k1 (by decide)), blk_grown h.k2 hg (Kd.R_ne h.hq h.k2 (by decide)), hb⟩
end
theorem entLeaf (s t : ByteArray) (a b : Bool) : (entEq (s, a) (t, b) = true ∧ (s.toList == t.toList) = true ∧ (a == b) = true) ∨ (entEq (s, a) (t, b) = false ∧ (s.toList == t.toList) = false) ∨ (entEq (s, a) (t, b) = false ∧ (s.toList == t.toList) = true ∧ (a == b) = false) := by
  unfold entEq
  simp only
  cases (s.toList == t.toList) <;> cases (a == b) <;> simp
theorem infoLine : (Try.prog.info? 48).map (fun i => (i.zero, i.size, i.bytes)) = some (some (.agg #[.int .i64 0, .string ⟨#[]⟩]), 2, 24) := by kernel_rfl
set_option maxRecDepth 100000 in
set_option maxHeartbeats 8000000 in
theorem Merge_ok (A0 A1 A2 : Option Addr) (c0 c1 c2 : Nat) (hA0 : Plain A0) (hA1 : Plain A1) (hA2 : Plain A2) (l0 l1 l2 : List S48) (ok0 : OkBook l0) (ok1 : OkBook l1) (ok2 : OkBook l2)
    (hlen : (mLines (shelfOf l0) (shelfOf l1) (shelfOf l2) 100).length ≤ 12) (w : World) (hC0 : k48.C w A0 l0.length l0) (hC1 : k48.C w A1 l1.length l1) (hC2 : k48.C w A2 l2.length l2) :
    Calls Try.prog 9 #[.slice A0 l0.length c0, .slice A1 l1.length c1, .slice A2 l2.length c2] w fun e w' => ∃ v1 v2, e = .returned (.tuple #[v1, v2, .int .i64 0])
      ∧ k48.R 48 w' w.heap.size (fun _ => True) v1 (mLines (shelfOf l0) (shelfOf l1) (shelfOf l2) 100) ∧ (Kd.int .i64).R 3 w' w.heap.size (fun _ => True) v2 (mClash (shelfOf l0) (shelfOf l1) (shelfOf l2) 100) ∧ Below w.heap.size w w' := by
  have HI0 := Lib.hid (fun W hC => isBook_yes A0 c0 hA0 l0 ok0 W hC)
  have HI1 := Lib.hid (fun W hC => isBook_yes A1 c1 hA1 l1 ok1 W hC)
  have HI2 := Lib.hid (fun W hC => isBook_yes A2 c2 hA2 l2 ok2 W hC)
  have HN0 := Lib.hid (fun W hC => newShelf_ok A0 c0 hA0 l0 ok0 W hC)
  have HN1 := Lib.hid (fun W hC => newShelf_ok A1 c1 hA1 l1 ok1 W hC)
  have HN2 := Lib.hid (fun W hC => newShelf_ok A2 c2 hA2 l2 ok2 W hC)
  have HC0 := Aside0.mk hC0
  have HC1 := Aside0.mk hC1
  have HC2 := Aside0.mk hC2
  clear hC0 hC1 hC2 ok0 ok1 ok2
  generalize l0.length = n0 at HI0 HN0 HC0
  generalize l1.length = n1 at HI1 HN1 HC1
  generalize l2.length = n2 at HI2 HN2 HC2
  generalize hf0 : shelfOf l0 = f0 at hlen HN0
  generalize hf1 : shelfOf l1 = f1 at hlen HN1
  generalize hf2 : shelfOf l2 = f2 at hlen HN2
  go_enter Try.func9, Try.ntmps9
  go_wp2_with fail
  refine (HI0.out _ HC0.out).mono ?_
  rintro e w1 ⟨rfl, hb1⟩
  replace hb1 := Aside0.mk hb1
  go_wp2_with fail
  refine (HI1.out _ (Kd.C_below HC1.out hb1.out)).mono ?_
  rintro e w2 ⟨rfl, hb2⟩
  replace hb2 := Aside0.mk (below_step hb1.out hb2)
  go_wp2_with fail
  refine (HI2.out _ (Kd.C_below HC2.out hb2.out)).mono ?_
  rintro e w3 ⟨rfl, hb3⟩
  replace hb3 := Aside0.mk (below_step hb2.out hb3)
  go_wp2_with fail
  refine (HN0.out _ (Kd.C_below HC0.out hb3.out)).mono ?_
  rintro e w4 ⟨g0, cs0, rfl, hg0, hk0, hs0, hb4⟩
  replace hg0 : w.heap.size ≤ g0 := Nat.le_trans hb3.out.size hg0
  replace hb4 := Aside0.mk (below_step hb3.out hb4)
  go_wp2_with fail
  refine (HN1.out _ (Kd.C_below HC1.out hb4.out)).mono ?_
  rintro e w5 ⟨g1, cs1, rfl, hg1, hk1, hs1, hb5⟩
  replace hg1 : w.heap.size ≤ g1 := Nat.le_trans hb4.out.size hg1
  replace hk0 := blk_below hk0 hb5
  replace hb5 := Aside0.mk (below_step hb4.out hb5)
  go_wp2_with fail
  refine (HN2.out _ (Kd.C_below HC2.out hb5.out)).mono ?_
  rintro e w6 ⟨g2, cs2, rfl, hg2, hk2, hs2, hb6⟩
  replace hg2 : w.heap.size ≤ g2 := Nat.le_trans hb5.out.size hg2
  replace hk0 := Aside0.mk (blk_below hk0 hb6)
  replace hk1 := Aside0.mk (blk_below hk1 hb6)
  replace hk2 := Aside0.mk hk2
  replace hb6 := Aside0.mk (below_step hb5.out hb6)
  clear hb1 hb2 hb3 hb4 hb5 HI0 HI1 HI2 HN0 HN1 HN2 HC0 HC1 HC2
  have HS0 := Aside0.mk hs0
  have HS1 := Aside0.mk hs1
  have HS2 := Aside0.mk hs2
  clear hs0 hs1 hs2
  go_wp2_with fail
  go_loopw [6, 7, 12, 13, 14, 15, 37, 57, 65] (fun s6 s7 _ _ _ _ s37 _ _ wr => ∃ k : Nat, k ≤ 100 ∧ s37 = .int .i64 k ∧ Aside0 (k48.R 48 wr w.heap.size (fun _ => True) s6 (mLines f0 f1 f2 k)) ∧ Aside0 ((Kd.int .i64).R 3 wr w.heap.size (fun _ => True) s7 (mClash f0 f1 f2 k))
      ∧ Aside0 (wr.heap[g0]? = some (.cells cs0 110 (0, 0))) ∧ Aside0 (wr.heap[g1]? = some (.cells cs1 110 (0, 0))) ∧ Aside0 (wr.heap[g2]? = some (.cells cs2 110 (0, 0))) ∧ Aside0 (Below w.heap.size w wr)) (fun _ _ _ _ _ _ s37 _ _ _ => 100 - (intOf s37).toNat)
  case atStart => exact ⟨0, by omega, rfl, ⟨Kd.R_nil _ _ _ _ _⟩, ⟨Kd.R_nil _ _ _ _ _⟩, hk0, hk1, hk2, hb6⟩
  case round =>
    clear hk0 hk1 hk2 hb6
    obtain ⟨k, hk, rfl, HL, HQ, K0, K1, K2, HB⟩ := hrel
    rename World => wo
    by_cases hlt : k < 100
    · have hltz : (k : Int) < 100 := by omega
      have hk0 : (0 : Int) ≤ (k : Int) := by omega
      have x0 : wo.cell? ⟨g0, k * 2, none⟩ = some (.string (f0 k).1) := (blk_cell K0.out _).trans (HS0.out.tx k hlt)
      have x1 : wo.cell? ⟨g0, k * 2 + 1, none⟩ = some (.bool (f0 k).2) := (blk_cell K0.out _).trans (HS0.out.is k hlt)
      have p0 : wo.cell? ⟨g1, k * 2, none⟩ = some (.string (f1 k).1) := (blk_cell K1.out _).trans (HS1.out.tx k hlt)
      have p1 : wo.cell? ⟨g1, k * 2 + 1, none⟩ = some (.bool (f1 k).2) := (blk_cell K1.out _).trans (HS1.out.is k hlt)
      have q0 : wo.cell? ⟨g2, k * 2, none⟩ = some (.string (f2 k).1) := (blk_cell K2.out _).trans (HS2.out.tx k hlt)
      have q1 : wo.cell? ⟨g2, k * 2 + 1, none⟩ = some (.bool (f2 k).2) := (blk_cell K2.out _).trans (HS2.out.is k hlt)
      have HLS := Aside0.mk (mLines_succ f0 f1 f2 k)
      have HQS := Aside0.mk (mClash_succ f0 f1 f2 k)
      generalize f0 k = X at x0 x1 HLS HQS
      generalize f1 k = Y at p0 p1 HLS HQS
      generalize f2 k = Z at q0 q1 HLS HQS
      obtain ⟨s0, b0⟩ := X
      obtain ⟨s1, b1⟩ := Y
      obtain ⟨s2, b2⟩ := Z
      simp only at x0 x1 p0 p1 q0 q1
      have x0a := ((below_alloc (Below.refl wo.heap.size wo) (.cells #[.string ⟨#[]⟩, .bool false] 80)).cell (p := ⟨g0, k * 2, none⟩) (World.block_lt_of_cell? _ _ x0)).trans x0
      have x1a := ((below_alloc (Below.refl wo.heap.size wo) (.cells #[.string ⟨#[]⟩, .bool false] 80)).cell (p := ⟨g0, k * 2 + 1, none⟩) (World.block_lt_of_cell? _ _ x1)).trans x1
      go_wp2_with fail
      go_region
      have BX1 := Aside0.mk (blk_drew (blk_new wo (.cells #[.string s0, .bool b0] 80)))
      have HB01 := below_drew (below_alloc (Below.refl wo.heap.size wo) (.cells #[.string s0, .bool b0] 80))
      generalize (wo.alloc (.cells #[.string s0, .bool b0] 80)).drew = W1 at BX1 HB01 ⊢
      have HB1 := Aside0.mk (below_step HB.out HB01)
      have HL1 := Aside0.mk (Kd.R_below HL.out HB01)
      have HQ1 := Aside0.mk (Kd.R_below HQ.out HB01)
      have K01 := Aside0.mk (blk_below K0.out HB01)
      have K11 := Aside0.mk (blk_below K1.out HB01)
      have K21 := Aside0.mk (blk_below K2.out HB01)
      have p01 := (HB01.cell (p := ⟨g1, k * 2, none⟩) (World.block_lt_of_cell? _ _ p0)).trans p0
      have p11 := (HB01.cell (p := ⟨g1, k * 2 + 1, none⟩) (World.block_lt_of_cell? _ _ p1)).trans p1
      have q01 := (HB01.cell (p := ⟨g2, k * 2, none⟩) (World.block_lt_of_cell? _ _ q0)).trans q0
      have q11 := (HB01.cell (p := ⟨g2, k * 2 + 1, none⟩) (World.block_lt_of_cell? _ _ q1)).trans q1
      have hbo : w.heap.size ≤ wo.heap.size := HB.out.size
      have HM1 := Aside0.mk (MSt.mk HL1.out HQ1.out K01.out K11.out K21.out HB1.out)
      clear HB01 HB HL HQ K0 K1 K2 x0 x1 x0a x1a p0 p1 q0 q1 HL1 HQ1 K01 K11 K21 HB1
      generalize wo.heap.size = bx at BX1 hbo ⊢
      have p0A := fun o => ((below_alloc (Below.refl W1.heap.size W1) o).cell (p := ⟨g1, k * 2, none⟩) (World.block_lt_of_cell? _ _ p01)).trans p01
      have p0B := fun o o' => ((below_alloc (below_alloc (Below.refl W1.heap.size W1) o) o').cell (p := ⟨g1, k * 2, none⟩) (World.block_lt_of_cell? _ _ p01)).trans p01
      have p1A := fun o => ((below_alloc (Below.refl W1.heap.size W1) o).cell (p := ⟨g1, k * 2 + 1, none⟩) (World.block_lt_of_cell? _ _ p11)).trans p11
      have p1B := fun o o' => ((below_alloc (below_alloc (Below.refl W1.heap.size W1) o) o').cell (p := ⟨g1, k * 2 + 1, none⟩) (World.block_lt_of_cell? _ _ p11)).trans p11
      have q0A := fun o => ((below_alloc (Below.refl W1.heap.size W1) o).cell (p := ⟨g2, k * 2, none⟩) (World.block_lt_of_cell? _ _ q01)).trans q01
      have q0B := fun o o' => ((below_alloc (below_alloc (Below.refl W1.heap.size W1) o) o').cell (p := ⟨g2, k * 2, none⟩) (World.block_lt_of_cell? _ _ q01)).trans q01
      have q1A := fun o => ((below_alloc (Below.refl W1.heap.size W1) o).cell (p := ⟨g2, k * 2 + 1, none⟩) (World.block_lt_of_cell? _ _ q11)).trans q11
      have q1B := fun o o' => ((below_alloc (below_alloc (Below.refl W1.heap.size W1) o) o').cell (p := ⟨g2, k * 2 + 1, none⟩) (World.block_lt_of_cell? _ _ q11)).trans q11
      have hbx1 := blk_lt BX1.out
      go_wp2_with fail
      go_cut [14, 15] from 43 to 52 (fun s14 s15 wx => ∃ bp bq : Nat, s14 = .pointer (some ⟨bp, 0, none⟩) ∧ s15 = .pointer (some ⟨bq, 0, none⟩) ∧ Aside0 (wx.heap[bp]? = some (.cells #[.string s1, .bool b1] 80 (0, 0))) ∧ Aside0 (wx.heap[bq]? = some (.cells #[.string s2, .bool b2] 80 (0, 0))) ∧ Aside0 (Below W1.heap.size W1 wx))
      case first =>
        go_region
        · go_wp2_with fail
          go_meet
          exact ⟨W1.heap.size, W1.heap.size + 1, rfl, rfl, ⟨blk_drew (blk_alloc (blk_new W1 _) _)⟩, ⟨blk_drew (by have h := blk_new (W1.alloc (.cells #[.string s1, .bool b1] 80)) (.cells #[.string s2, .bool b2] 80); rw [World.size_alloc] at h; exact h)⟩, ⟨below_drew (below_alloc (below_alloc (Below.refl _ _) _) _)⟩⟩
        · go_wp2_with fail
          go_meet
          exact ⟨W1.heap.size + 1, W1.heap.size, rfl, rfl, ⟨blk_drew (by have h := blk_new (W1.alloc (.cells #[.string s2, .bool b2] 80)) (.cells #[.string s1, .bool b1] 80); rw [World.size_alloc] at h; exact h)⟩, ⟨blk_drew (blk_alloc (blk_new W1 _) _)⟩, ⟨below_drew (below_alloc (below_alloc (Below.refl _ _) _) _)⟩⟩
      case rest =>
        obtain ⟨bp, bq, rfl, rfl, BP, BQ, HB2⟩ := hcut
        rename World => W2
        have HM2 := Aside0.mk (HM1.out.below HB2.out)
        have BX2 := Aside0.mk (blk_below BX1.out HB2.out)
        clear HM1 BX1 HB2 p0A p0B p1A p1B q0A q0B q1A q1B p01 p11 q01 q11 hbx1
        have x0 : W2.cell? ⟨bx, 0, none⟩ = some (.string s0) := (blk_cell BX2.out 0).trans rfl
        have x1 : W2.cell? ⟨bx, 1, none⟩ = some (.bool b0) := (blk_cell BX2.out 1).trans rfl
        have p0 : W2.cell? ⟨bp, 0, none⟩ = some (.string s1) := (blk_cell BP.out 0).trans rfl
        have p1 : W2.cell? ⟨bp, 1, none⟩ = some (.bool b1) := (blk_cell BP.out 1).trans rfl
        have q0 : W2.cell? ⟨bq, 0, none⟩ = some (.string s2) := (blk_cell BQ.out 0).trans rfl
        have q1 : W2.cell? ⟨bq, 1, none⟩ = some (.bool b2) := (blk_cell BQ.out 1).trans rfl
        have fx0 := blk_frozen BX2.out 0
        have fx1 := blk_frozen BX2.out 1
        obtain ⟨⟨⟨sm, bm⟩, cl⟩, hM⟩ : ∃ r, mrg (s0, b0) (s1, b1) (s2, b2) = r := ⟨_, rfl⟩
        rw [hM] at HLS HQS
        have hmq : (mClash f0 f1 f2 k).length ≤ 100 := Nat.le_trans (List.length_filterMap_le _ _) (by rw [List.length_range]; omega)
        have hml : (mLines f0 f1 f2 k).length ≤ 100 := Nat.le_trans (List.length_filterMap_le _ _) (by rw [List.length_range]; omega)
        go_upto_block 2 with fail
        go_cut [7] from 53 to 69 (fun s7 wx => Aside0 (MSt w g0 g1 g2 cs0 cs1 cs2 wx u6 s7 (mLines f0 f1 f2 k) (mClash f0 f1 f2 (k + 1))) ∧ Aside0 (wx.heap[bx]? = some (.cells #[.string sm, .bool bm] 80 (0, 0))))
        case first =>
          rcases entLeaf s1 s2 b1 b2 with ⟨h1, ea1, eb1⟩ | ⟨h1, ea1⟩ | ⟨h1, ea1, eb1⟩
          · have hm : mrg (s0, b0) (s1, b1) (s2, b2) = ((s1, b1), false) := by simp [mrg, h1]
            rw [hm] at hM
            cases hM
            clear h1 hm
            go_wp2_with fail
            go_meet
            exact ⟨⟨by rw [HQS.out]; simpa using HM2.out.set BX2.out hbo (.string s1) (.bool b1)⟩, ⟨blk_put (blk_put BX2.out 0 (.string s1) rfl) 1 (.bool b1) rfl⟩⟩
          all_goals
            rcases entLeaf s2 s0 b2 b0 with ⟨h2, ea2, eb2⟩ | ⟨h2, ea2⟩ | ⟨h2, ea2, eb2⟩
            · have hm : mrg (s0, b0) (s1, b1) (s2, b2) = ((s1, b1), false) := by simp [mrg, h1, h2]
              rw [hm] at hM
              cases hM
              clear hm
              go_wp2_with fail
              go_meet
              exact ⟨⟨by rw [HQS.out]; simpa using HM2.out.set BX2.out hbo (.string s1) (.bool b1)⟩, ⟨blk_put (blk_put BX2.out 0 (.string s1) rfl) 1 (.bool b1) rfl⟩⟩
            all_goals
              rcases entLeaf s1 s0 b1 b0 with ⟨h3, ea3, eb3⟩ | ⟨h3, ea3⟩ | ⟨h3, ea3, eb3⟩
              · have hm : mrg (s0, b0) (s1, b1) (s2, b2) = ((s2, b2), false) := by simp [mrg, h1, h2, h3]
                rw [hm] at hM
                cases hM
                clear hm
                go_wp2_with fail
                go_meet
                exact ⟨⟨by rw [HQS.out]; simpa using HM2.out.set BX2.out hbo (.string s2) (.bool b2)⟩, ⟨blk_put (blk_put BX2.out 0 (.string s2) rfl) 1 (.bool b2) rfl⟩⟩
              all_goals
                have hm : mrg (s0, b0) (s1, b1) (s2, b2) = ((s0, b0), true) := by simp [mrg, h1, h2, h3]
                rw [hm] at hM
                cases hM
                clear hm
                go_wp2_with (at_builtin; refine Kd.R_append (Kd.int .i64) (w0 := w) w.heap.size rfl (.tmp 53) (.tmp 55) 34 3 (.int .i64 0) 8 rfl Try.underlying34 infoInt rfl (by decide) (by decide) u7 (mClash f0 f1 f2 k) (k : Int) [.int .i64 k] (fun _ => True) (fun _ => False) rfl rfl rfl (fun _ hk_ => hk_.elim) (fun _ _ => trivial) HM2.out.hq HM2.out.bl HM2.out.bl.size (by omega) ?_; intro v11 w11 ho hb hg _; have HM4 := Aside0.mk (HM2.out.clash ho hb hg); have BX4 := Aside0.mk (blk_grown BX2.out hg (Kd.R_ne HM2.out.hq BX2.out (by decide))); clear ho hb hg)
                go_meet
                exact ⟨⟨by rw [HQS.out]; exact HM4.out⟩, BX4⟩
        case rest =>
          obtain ⟨HM3, BX3⟩ := hcut
          rename World => W3
          clear HM2 BX2 BP BQ x0 x1 p0 p1 q0 q1 fx0 fx1 HQS
          have z0 : W3.cell? ⟨bx, 0, none⟩ = some (.string sm) := (blk_cell BX3.out 0).trans rfl
          have z1 : W3.cell? ⟨bx, 1, none⟩ = some (.bool bm) := (blk_cell BX3.out 1).trans rfl
          cases bm with
          | false =>
            have HL3 : Aside0 (mLines f0 f1 f2 (k + 1) = mLines f0 f1 f2 k) := ⟨by rw [HLS.out]; simp⟩
            go_wp2_with fail
            go_roundw
            case rel => exact ⟨k + 1, by omega, by go_num, ⟨by rw [HL3.out]; exact HM3.out.hl⟩, ⟨HM3.out.hq⟩, ⟨HM3.out.k0⟩, ⟨HM3.out.k1⟩, ⟨HM3.out.k2⟩, ⟨HM3.out.bl⟩⟩
            case measure => simp [intOf]; omega
          | true =>
            have HL3 : Aside0 (mLines f0 f1 f2 (k + 1) = mLines f0 f1 f2 k ++ [⟨(k : Int), sm⟩]) := ⟨by rw [HLS.out]; simp⟩
            go_wp2_with (at_builtin; refine Kd.R_append k48 (w0 := w) w.heap.size rfl (.tmp 72) (.tmp 77) 40 48 (.agg #[.int .i64 0, .string ⟨#[]⟩]) 24 rfl Try.underlying40 infoLine rfl (by decide) (by decide) u6 (mLines f0 f1 f2 k) ⟨(k : Int), sm⟩ [.int .i64 k, .string sm] (fun _ => True) (fun _ => False) rfl rfl (k48_mkM _ _ _ _) (fun _ hk_ => hk_.elim) (fun _ _ => trivial) HM3.out.hl HM3.out.bl HM3.out.bl.size (by omega) ?_; intro v11 w11 ho hb hg _; have HM4 := Aside0.mk (HM3.out.lines ho hb hg); clear ho hb hg)
            go_roundw
            case rel => exact ⟨k + 1, by omega, by go_num, ⟨by rw [HL3.out]; exact HM4.out.hl⟩, ⟨HM4.out.hq⟩, ⟨HM4.out.k0⟩, ⟨HM4.out.k1⟩, ⟨HM4.out.k2⟩, ⟨HM4.out.bl⟩⟩
            case measure => simp [intOf]; omega
    · obtain rfl : k = 100 := by omega
      have hl6 : ((mLines f0 f1 f2 100).length : Int) ≤ 12 := by omega
      obtain ⟨A6, c6, rfl⟩ := Kd.R_slice HL.out
      generalize (mLines f0 f1 f2 100).length = nl at hl6 HL ⊢
      go_wp2_with fail
      go_ret3
      exact ⟨_, _, rfl, HL.out, HQ.out, HB.out⟩
end Go.Proofs.Ytfbndhhogpacmaa
/-! The examples of irisKnown13, in plain Lean. -/
namespace Go.Proofs.Ytfbndhhogpacmaa
open Go.RowKit Go.Shelf
open Go.Proofs.YtfbndhhogpacmaaW.PrintWords Go.Proofs.Ytfbndhhogpacmaa.T
set_option linter.unusedVariables false
set_option linter.unusedSimpArgs false
def t1 (x : UInt8) : ByteArray := ⟨#[x]⟩
theorem tl1 (x : UInt8) : (t1 x).toList = [x] := by
  unfold t1
  rw [ByteArray.toList, ByteArray.toList.loop, if_pos (by show 0 < 1; omega), ByteArray.toList.loop, if_neg (by show ¬ 0 + 1 < 1; omega)]
  rfl
theorem tl0 : (⟨#[]⟩ : ByteArray).toList = [] := by
  rw [ByteArray.toList, ByteArray.toList.loop, if_neg (by show ¬ 0 < 0; omega)]
  rfl
theorem tx1 (x : UInt8) (h1 : 32 ≤ x.toNat) (h2 : x.toNat ≤ 126) : IsTx (t1 x) := by
  intro i h
  obtain rfl : i = 0 := by have : i < 1 := h; omega
  exact ⟨h1, h2⟩
theorem line1 (n : Int) (x : UInt8) (n1 : 0 ≤ n) (n2 : n ≤ 99) (h1 : 32 ≤ x.toNat) (h2 : x.toNat ≤ 126) : OkLine ⟨n, t1 x⟩ := ⟨n1, n2, by show 1 ≤ 12; omega, tx1 x h1 h2⟩
theorem book3 (a b c : Int) (x y z : UInt8) (h0 : 0 ≤ a) (hab : a < b) (hbc : b < c) (hc : c ≤ 99) (hx : 32 ≤ x.toNat ∧ x.toNat ≤ 126) (hy : 32 ≤ y.toNat ∧ y.toNat ≤ 126) (hz : 32 ≤ z.toNat ∧ z.toNat ≤ 126) : OkBook [⟨a, t1 x⟩, ⟨b, t1 y⟩, ⟨c, t1 z⟩] := by
  refine ⟨?_, ?_, by simp⟩
  · intro l hl
    simp only [List.mem_cons, List.not_mem_nil, or_false] at hl
    rcases hl with rfl | rfl | rfl
    · exact line1 _ _ (by omega) (by omega) hx.1 hx.2
    · exact line1 _ _ (by omega) (by omega) hy.1 hy.2
    · exact line1 _ _ (by omega) (by omega) hz.1 hz.2
  · intro k h
    have : k = 0 ∨ k = 1 := by simp at h; omega
    rcases this with rfl | rfl
    · exact hab
    · exact hbc
def bk0 : List S48 := [⟨1, t1 97⟩, ⟨2, t1 98⟩, ⟨3, t1 99⟩]
def bk1 : List S48 := [⟨1, t1 97⟩, ⟨2, t1 120⟩, ⟨4, t1 100⟩]
def bk2 : List S48 := [⟨1, t1 121⟩, ⟨2, t1 122⟩, ⟨3, t1 99⟩]
theorem okBk0 : OkBook bk0 := book3 _ _ _ _ _ _ (by omega) (by omega) (by omega) (by omega) (by decide) (by decide) (by decide)
theorem okBk1 : OkBook bk1 := book3 _ _ _ _ _ _ (by omega) (by omega) (by omega) (by omega) (by decide) (by decide) (by decide)
theorem okBk2 : OkBook bk2 := book3 _ _ _ _ _ _ (by omega) (by omega) (by omega) (by omega) (by decide) (by decide) (by decide)
theorem entEq_t (x y : UInt8) (a b : Bool) : entEq (t1 x, a) (t1 y, b) = (x == y && a == b) := by
  simp [entEq, tl1]
theorem entEq_n (x : UInt8) (a b : Bool) : entEq (t1 x, a) (⟨#[]⟩, b) = false := by
  simp [entEq, tl1, tl0]
theorem entEq_m (x : UInt8) (a b : Bool) : entEq (⟨#[]⟩, a) (t1 x, b) = false := by
  simp [entEq, tl1, tl0]
theorem entEq_0 (x : Ent) : entEq x x = true := by
  simp [entEq]
theorem bk_far (i : Nat) (h : 5 ≤ i) : mrg (shelfOf bk0 i) (shelfOf bk1 i) (shelfOf bk2 i) = ((⟨#[]⟩, false), false) := by
  have e1 : i ≠ 1 := by omega
  have e2 : i ≠ 2 := by omega
  have e3 : i ≠ 3 := by omega
  have e4 : i ≠ 4 := by omega
  have h0 : shelfOf bk0 i = (⟨#[]⟩, false) := by simp [shelfOf, bk0, shPut, sh0, e1, e2, e3]
  have h1 : shelfOf bk1 i = (⟨#[]⟩, false) := by simp [shelfOf, bk1, shPut, sh0, e1, e2, e4]
  have h2 : shelfOf bk2 i = (⟨#[]⟩, false) := by simp [shelfOf, bk2, shPut, sh0, e1, e2, e3]
  rw [h0, h1, h2]
  simp [mrg, entEq_0]
theorem bk_0 : mrg (shelfOf bk0 0) (shelfOf bk1 0) (shelfOf bk2 0) = ((⟨#[]⟩, false), false) := by
  show mrg (⟨#[]⟩, false) (⟨#[]⟩, false) (⟨#[]⟩, false) = _
  simp [mrg, entEq_0]
theorem bk_1 : mrg (shelfOf bk0 1) (shelfOf bk1 1) (shelfOf bk2 1) = ((t1 121, true), false) := by
  show mrg (t1 97, true) (t1 97, true) (t1 121, true) = _
  simp [mrg, entEq_t]
theorem bk_2 : mrg (shelfOf bk0 2) (shelfOf bk1 2) (shelfOf bk2 2) = ((t1 98, true), true) := by
  show mrg (t1 98, true) (t1 120, true) (t1 122, true) = _
  simp [mrg, entEq_t]
theorem bk_3 : mrg (shelfOf bk0 3) (shelfOf bk1 3) (shelfOf bk2 3) = ((⟨#[]⟩, false), false) := by
  show mrg (t1 99, true) (⟨#[]⟩, false) (t1 99, true) = _
  simp [mrg, entEq_t, entEq_n, entEq_m]
theorem bk_4 : mrg (shelfOf bk0 4) (shelfOf bk1 4) (shelfOf bk2 4) = ((t1 100, true), false) := by
  show mrg (⟨#[]⟩, false) (t1 100, true) (⟨#[]⟩, false) = _
  simp [mrg, entEq_n, entEq_m, entEq_0]
def bkL : List S48 := [⟨1, t1 121⟩, ⟨2, t1 98⟩, ⟨4, t1 100⟩]
theorem mL5 (m : Nat) : mLines (shelfOf bk0) (shelfOf bk1) (shelfOf bk2) (5 + m) = bkL := by
  induction m with
  | zero =>
    rw [mLines_succ, mLines_succ, mLines_succ, mLines_succ, mLines_succ, bk_0, bk_1, bk_2, bk_3, bk_4]
    rfl
  | succ m ih =>
    rw [show 5 + (m + 1) = (5 + m) + 1 from rfl, mLines_succ, ih, bk_far _ (by omega)]
    rfl
theorem mC5 (m : Nat) : mClash (shelfOf bk0) (shelfOf bk1) (shelfOf bk2) (5 + m) = [2] := by
  induction m with
  | zero =>
    rw [mClash_succ, mClash_succ, mClash_succ, mClash_succ, mClash_succ, bk_0, bk_1, bk_2, bk_3, bk_4]
    rfl
  | succ m ih =>
    rw [show 5 + (m + 1) = (5 + m) + 1 from rfl, mClash_succ, ih, bk_far _ (by omega)]
    rfl
theorem mL_bk : mLines (shelfOf bk0) (shelfOf bk1) (shelfOf bk2) 100 = bkL := mL5 95
theorem mC_bk : mClash (shelfOf bk0) (shelfOf bk1) (shelfOf bk2) 100 = [2] := mC5 95
/-- The town of the examples. -/
def kMill : ByteArray := ⟨#[109, 105, 108, 108]⟩
def kChurch : ByteArray := ⟨#[99, 104, 117, 114, 99, 104]⟩
def kKing : ByteArray := ⟨#[107, 105, 110, 103]⟩
def kQueen : ByteArray := ⟨#[113, 117, 101, 101, 110]⟩
def kFirst : List ByteArray := [kMill, kChurch, kKing]
def kChg : List S32 := [⟨100, 2, kQueen⟩]
theorem isNm_of (l : List UInt8) (h1 : 1 ≤ l.length) (h2 : l.length ≤ 10) (h3 : ∀ x ∈ l, 97 ≤ x.toNat ∧ x.toNat ≤ 122) : IsNm ⟨l.toArray⟩ := by
  refine ⟨h1, h2, fun i hi => ?_⟩
  have hi' : i < l.length := hi
  have e : (⟨l.toArray⟩ : ByteArray)[i]'hi = l[i] := rfl
  rw [e]
  exact h3 _ (List.getElem_mem hi')
theorem nmMill : IsNm kMill := isNm_of [109, 105, 108, 108] (by decide) (by decide) (by decide)
theorem nmChurch : IsNm kChurch := isNm_of [99, 104, 117, 114, 99, 104] (by decide) (by decide) (by decide)
theorem nmKing : IsNm kKing := isNm_of [107, 105, 110, 103] (by decide) (by decide) (by decide)
theorem nmQueen : IsNm kQueen := isNm_of [113, 117, 101, 101, 110] (by decide) (by decide) (by decide)
theorem kGood : GoodTown kFirst kChg where
  ok := {
    n1 := by simp [kFirst]
    n2 := by simp [kFirst]
    nm := fun s hs => by
      simp only [kFirst, List.mem_cons, List.not_mem_nil, or_false] at hs
      rcases hs with rfl | rfl | rfl
      · exact nmMill
      · exact nmChurch
      · exact nmKing
    nd := by simp [kFirst, kMill, kChurch, kKing]
    c1 := by simp [kChg]
    ch := fun c hc => by
      simp only [kChg, List.mem_cons, List.not_mem_nil, or_false] at hc
      subst hc
      exact ⟨by simp, by simp, by simp, by simp [kFirst], nmQueen⟩
    up := List.pairwise_singleton _ _ }
  nc := fun k hk => by
    have : k = 0 ∨ k = 1 := by simp [kChg] at hk; omega
    rcases this with rfl | rfl
    · show kFirst.Nodup
      simp [kFirst, kMill, kChurch, kKing]
    · show [kMill, kChurch, kQueen].Nodup
      simp [kMill, kChurch, kQueen]
theorem kName : nameAt kFirst kChg 2 120 = kQueen := by
  have h : cntLe kChg 120 = 1 := by decide
  rw [nameAt, h]
  rfl
def kSlips : List S64 := [⟨⟨10, 12⟩, ⟨2, 3⟩, 5⟩]
theorem kWorks : OkWorks kSlips 40 60 where
  n1 := by simp [kSlips]
  n2 := by simp [kSlips]
  sl := fun s hs => by
    simp only [kSlips, List.mem_cons, List.not_mem_nil, or_false] at hs
    subst hs
    exact ⟨by simp, by simp, by simp, by simp, by simp, by simp, by simp, by simp, by simp⟩
  h1 := by omega
  h2 := by omega
  h3 := by omega
def kSigns : List S72 := [⟨2, 120, 10, [0, 0]⟩]
theorem kSigns_ok : ∀ x ∈ kSigns, OkSign kFirst.length kSlips.length x := fun x hx => by
  simp only [kSigns, List.mem_cons, List.not_mem_nil, or_false] at hx
  subst hx
  exact ⟨by simp, by simp [kFirst], by simp, by simp, ⟨by simp [jobOf], by simp [jobOf], by simp [jobOf], by simp [jobOf, kSlips]⟩⟩
theorem kUses : usesOf kSlips (kSigns.map jobOf) = [⟨40, 60⟩] := by rfl
theorem kSays : kSigns.map (fun x => nameAt kFirst kChg x.f0 x.f1) = [kQueen] := by
  show [nameAt kFirst kChg 2 120] = _
  rw [kName]
end Go.Proofs.Ytfbndhhogpacmaa
