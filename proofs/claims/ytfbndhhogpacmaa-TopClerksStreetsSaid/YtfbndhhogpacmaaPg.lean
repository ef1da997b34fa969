import Derived.Test.YtfbndhhogpacmaaPf
import Derived.Deep.RegionLaw
/-! IrisSigns.made: it returns signs that are valid. -/
namespace Go.Proofs.Ytfbndhhogpacmaa
open Go.RowKit Go.Shelf
open Go.Proofs.YtfbndhhogpacmaaW.PrintWords Go.Proofs.Ytfbndhhogpacmaa.T
set_option linter.unusedVariables false
set_option linter.unusedSimpArgs false
theorem w64_in (n : Int) (h : -9223372036854775808 ≤ n ∧ n ≤ 9223372036854775807) : wrap64 n = n := by unfold wrap64; omega
def OkByte (x : Int) : Prop := 0 ≤ x ∧ x ≤ 255
theorem wrapB {x : Int} (h : OkByte x) : wrap64 x = x := w64_in _ (by have := h.1; have := h.2; omega)
end Go.Proofs.Ytfbndhhogpacmaa
/-! The town in bytes: the plain side of SloeTown.made. -/
namespace Go.Proofs.Ytfbndhhogpacmaa
open Go.RowKit Go.Shelf
open Go.Proofs.YtfbndhhogpacmaaW.PrintWords Go.Proofs.Ytfbndhhogpacmaa.T
set_option linter.unusedVariables false
set_option linter.unusedSimpArgs false
/-- The names that streets can have. -/
def names8 : List ByteArray := [⟨#[97, 98, 98, 101]⟩, ⟨#[98, 97, 100]⟩, ⟨#[99, 97, 102, 101]⟩, ⟨#[100, 101, 97, 100]⟩, ⟨#[101, 103, 103]⟩, ⟨#[102, 97, 99, 101]⟩, ⟨#[103, 97, 103]⟩, ⟨#[104, 101, 97, 100]⟩]
theorem sloeNames_f : smaltotop_sloeNames.f = some names8 := rfl
def nm8 (n : Nat) : ByteArray := names8.getD n ByteArray.empty
theorem nm8_ok (n : Nat) (h : n < 8) : IsNm (nm8 n) := by
  have : n = 0 ∨ n = 1 ∨ n = 2 ∨ n = 3 ∨ n = 4 ∨ n = 5 ∨ n = 6 ∨ n = 7 := by omega
  have L : ∀ (l : List UInt8), 1 ≤ l.length → l.length ≤ 10 → (∀ x ∈ l, 97 ≤ x.toNat ∧ x.toNat ≤ 122) → IsNm ⟨l.toArray⟩ := by
    intro l h1 h2 h3
    refine ⟨h1, h2, fun i hi => ?_⟩
    have hi' : i < l.length := hi
    have e : (⟨l.toArray⟩ : ByteArray)[i]'hi = l[i] := rfl
    rw [e]
    exact h3 _ (List.getElem_mem hi')
  rcases this with rfl | rfl | rfl | rfl | rfl | rfl | rfl | rfl
  · exact L [97, 98, 98, 101] (by decide) (by decide) (by decide)
  · exact L [98, 97, 100] (by decide) (by decide) (by decide)
  · exact L [99, 97, 102, 101] (by decide) (by decide) (by decide)
  · exact L [100, 101, 97, 100] (by decide) (by decide) (by decide)
  · exact L [101, 103, 103] (by decide) (by decide) (by decide)
  · exact L [102, 97, 99, 101] (by decide) (by decide) (by decide)
  · exact L [103, 97, 103] (by decide) (by decide) (by decide)
  · exact L [104, 101, 97, 100] (by decide) (by decide) (by decide)
theorem nm8_inj (a b : Nat) (ha : a < 8) (hb : b < 8) (h : nm8 a = nm8 b) : a = b := by
  have hd : ∀ a ∈ List.range 8, ∀ b ∈ List.range 8, (nm8 a).data.toList = (nm8 b).data.toList → a = b := by decide
  exact hd a (List.mem_range.2 ha) b (List.mem_range.2 hb) (by rw [h])
def first3 : List ByteArray := [nm8 0, nm8 1, nm8 2]
theorem namesK_app (first : List ByteArray) (chg : List S32) (c : S32) (k : Nat) (hk : k ≤ chg.length) : namesK first (chg ++ [c]) k = namesK first chg k := by
  induction k with
  | zero => rfl
  | succ k ih =>
    have h2 := namesK_succ first (chg ++ [c]) k (by rw [List.length_append]; simp; omega)
    rw [h2, namesK_succ first chg k (by omega), ih (by omega), List.getElem_append_left (by omega)]
theorem namesK_app1 (first : List ByteArray) (chg : List S32) (c : S32) : namesK first (chg ++ [c]) (chg.length + 1) = (namesK first chg chg.length).set c.f1.toNat c.f2 := by
  have h2 := namesK_succ first (chg ++ [c]) chg.length (by rw [List.length_append]; simp)
  rw [h2, namesK_app _ _ _ _ (Nat.le_refl _), List.getElem_append_right (Nat.le_refl _)]
  simp
/-- The town after some changes: three names of the eight, all unlike. -/
structure Town3 (chg : List S32) (at_ : Int) (a b c : Nat) : Prop where
  ch : ∀ x ∈ chg, OkChange 3 x
  le : ∀ x ∈ chg, x.f0 ≤ at_
  up : chg.Pairwise fun x y => x.f0 < y.f0
  nc : ∀ k ≤ chg.length, (namesK first3 chg k).Nodup
  now : namesK first3 chg chg.length = [nm8 a, nm8 b, nm8 c]
  a8 : a < 8
  b8 : b < 8
  c8 : c < 8
  ab : a ≠ b
  ac : a ≠ c
  bc : b ≠ c
  at0 : 0 ≤ at_
  at1 : at_ ≤ 140 * chg.length
  n8 : ∀ x ∈ chg, ∃ n : Nat, n < 8 ∧ x.f2 = nm8 n
theorem three_nodup (a b c : Nat) (ha : a < 8) (hb : b < 8) (hc : c < 8) (ab : a ≠ b) (ac : a ≠ c) (bc : b ≠ c) : [nm8 a, nm8 b, nm8 c].Nodup := by
  have e1 : nm8 a ≠ nm8 b := fun h => ab (nm8_inj a b ha hb h)
  have e2 : nm8 a ≠ nm8 c := fun h => ac (nm8_inj a c ha hc h)
  have e3 : nm8 b ≠ nm8 c := fun h => bc (nm8_inj b c hb hc h)
  simp [e1, e2, e3]
theorem Town3.start : Town3 [] 0 0 1 2 where
  ch := by simp
  le := by simp
  up := List.Pairwise.nil
  nc := fun k hk => by
    obtain rfl : k = 0 := by simpa using hk
    exact three_nodup 0 1 2 (by omega) (by omega) (by omega) (by omega) (by omega) (by omega)
  now := rfl
  a8 := by omega
  b8 := by omega
  c8 := by omega
  ab := by omega
  ac := by omega
  bc := by omega
  at0 := by omega
  at1 := by simp
  n8 := by simp
theorem Town3.good {chg : List S32} {at_ : Int} {a b c : Nat} (h : Town3 chg at_ a b c) (hl : chg.length ≤ 8) : GoodTown first3 chg where
  ok := {
    n1 := by simp [first3]
    n2 := by simp [first3]
    nm := fun s hs => by
      simp only [first3, List.mem_cons, List.not_mem_nil, or_false] at hs
      rcases hs with rfl | rfl | rfl
      · exact nm8_ok 0 (by omega)
      · exact nm8_ok 1 (by omega)
      · exact nm8_ok 2 (by omega)
    nd := three_nodup 0 1 2 (by omega) (by omega) (by omega) (by omega) (by omega) (by omega)
    c1 := hl
    ch := h.ch
    up := h.up }
  nc := h.nc
theorem Town3.next {chg : List S32} {at_ : Int} {a b c : Nat} (h : Town3 chg at_ a b c) (hl : chg.length < 7) (d : Int) (d1 : 1 ≤ d) (d2 : d ≤ 140) (s : Int) (n a' b' c' : Nat) (hn : n < 8) (hs : (s = 0 ∧ n ≠ b ∧ n ≠ c ∧ a' = n ∧ b' = b ∧ c' = c) ∨ (s = 1 ∧ n ≠ a ∧ n ≠ c ∧ a' = a ∧ b' = n ∧ c' = c) ∨ (s = 2 ∧ n ≠ a ∧ n ≠ b ∧ a' = a ∧ b' = b ∧ c' = n)) :
    Town3 (chg ++ [⟨at_ + d, s, nm8 n⟩]) (at_ + d) a' b' c' := by
  obtain ⟨h1, h2, h3, h4, h5, h6, h7, h8, h9, h10, h11, h12, h13, h14⟩ := h
  have hnow : namesK first3 (chg ++ [⟨at_ + d, s, nm8 n⟩]) (chg.length + 1) = [nm8 a', nm8 b', nm8 c'] := by
    rw [namesK_app1, h5]
    rcases hs with ⟨rfl, _, _, rfl, rfl, rfl⟩ | ⟨rfl, _, _, rfl, rfl, rfl⟩ | ⟨rfl, _, _, rfl, rfl, rfl⟩ <;> rfl
  refine ⟨?_, ?_, ?_, ?_, ?_, ?_, ?_, ?_, ?_, ?_, ?_, by omega, by rw [List.length_append]; simp; omega, fun x hx => by rw [List.mem_append] at hx; rcases hx with hx | hx; exact h14 x hx; obtain rfl := List.mem_singleton.1 hx; exact ⟨n, hn, rfl⟩⟩
  · intro x hx
    rw [List.mem_append] at hx
    rcases hx with hx | hx
    · exact h1 x hx
    · obtain rfl := List.mem_singleton.1 hx
      exact ⟨by simp only; omega, by simp only; omega, by simp only; omega, by simp only; omega, nm8_ok n hn⟩
  · intro x hx
    rw [List.mem_append] at hx
    rcases hx with hx | hx
    · have := h2 x hx; omega
    · obtain rfl := List.mem_singleton.1 hx
      exact Int.le_refl _
  · rw [List.pairwise_append]
    refine ⟨h3, List.pairwise_singleton _ _, fun x hx y hy => ?_⟩
    obtain rfl := List.mem_singleton.1 hy
    have := h2 x hx
    simp only
    omega
  · intro k hk
    rw [List.length_append] at hk
    rcases Nat.lt_or_ge chg.length k with hlt | hge
    · obtain rfl : k = chg.length + 1 := by simp at hk; omega
      rw [hnow]
      rcases hs with ⟨_, _, _, rfl, rfl, rfl⟩ | ⟨_, _, _, rfl, rfl, rfl⟩ | ⟨_, _, _, rfl, rfl, rfl⟩
      · exact three_nodup _ _ _ hn h7 h8 (by omega) (by omega) h11
      · exact three_nodup _ _ _ h6 hn h8 (by omega) h10 (by omega)
      · exact three_nodup _ _ _ h6 h7 hn h9 (by omega) (by omega)
    · rw [namesK_app _ _ _ _ hge]
      exact h4 k hge
  · rw [List.length_append]
    exact hnow
  all_goals (rcases hs with ⟨_, _, _, rfl, rfl, rfl⟩ | ⟨_, _, _, rfl, rfl, rfl⟩ | ⟨_, _, _, rfl, rfl, rfl⟩ <;> omega)
end Go.Proofs.Ytfbndhhogpacmaa
/-! SloeTown.made: the walk. -/
namespace Go.Proofs.Ytfbndhhogpacmaa
open Go.RowKit Go.Shelf
open Go.Proofs.YtfbndhhogpacmaaW.PrintWords Go.Proofs.YtfbndhhogpacmaaW.PrintLast Go.Proofs.YtfbndhhogpacmaaW.PrintMore Go.Proofs.Ytfbndhhogpacmaa.T
set_option linter.unusedVariables false
set_option linter.unusedSimpArgs false
/-- Three bytes. -/
def k3 : Kd (Int × Int × Int) := Kd.pair (Kd.int .u8) (Kd.pair (Kd.int .u8) (Kd.int .u8))
theorem at_3 {w : World} {A : Option Addr} {n : Nat} {xs : List (Int × Int × Int)} (h : k3.C w A n xs) (i : Nat) (hi : i < n) :
    ∃ ad, A = some ad ∧ w.cell? (ad.add (i * 3)) = some (.int .u8 (xs.getD i (0, 0, 0)).1) ∧ w.cell? ⟨(ad.add (i * 3)).block, (ad.add (i * 3)).off + 1, none⟩ = some (.int .u8 (xs.getD i (0, 0, 0)).2.1) ∧ w.cell? ⟨(ad.add (i * 3)).block, (ad.add (i * 3)).off + 2, none⟩ = some (.int .u8 (xs.getD i (0, 0, 0)).2.2) := by
  obtain ⟨ad, c, e, _, hK, hc⟩ := Kd.C_get h (0, 0, 0) (i : Int) (by omega) (by omega)
  obtain ⟨_, _, rfl, rfl, ⟨_, _, rfl, rfl, rfl⟩⟩ := hK
  have hc' : ∀ j u, ([.int .u8 (xs.getD i (0, 0, 0)).1, .int .u8 (xs.getD i (0, 0, 0)).2.1, .int .u8 (xs.getD i (0, 0, 0)).2.2] : List Value)[j]? = some u → w.cell? (ad.add (i * 3 + j)) = some u := hc
  exact ⟨ad, e, hc' 0 _ rfl, by rw [← add_field _ _ 1 (by omega)]; exact hc' 1 _ rfl, by rw [← add_field _ _ 2 (by omega)]; exact hc' 2 _ rfl⟩
theorem infoStreet : (Try.prog.info? 32).map (fun i => (i.zero, i.size, i.bytes)) = some (some (.agg #[.int .i64 0, .int .i64 0, .string ⟨#[]⟩]), 3, 32) := by kernel_rfl
theorem cut3 (A : Option Addr) (c : Nat) (hc : 8 ≤ c) (W : World) : (Instr.slice 24 (.slice A 8 c) none (some (.int .i64 3)) none).run Try.prog W = .ok (.slice A 3 c) W := by
  obtain ⟨i0, hi, hz0, hz1, hz2⟩ := info_parts infoStr
  exact cut_to 24 9 .i64 Try.underlying24 hi A 8 c 3 (by decide) (by decide) hc W
/-- How many names on the next free one is. -/
def nFree (p q n : Nat) : Nat := if n = p ∨ n = q then (if (n + 1) % 8 = p ∨ (n + 1) % 8 = q then 2 else 1) else 0
theorem nFree_next (p q n : Nat) (hp : p < 8) (hq : q < 8) (hn : n < 8) (h : n = p ∨ n = q) : nFree p q ((n + 1) % 8) < nFree p q n := by
  unfold nFree
  rw [if_pos h]
  by_cases h1 : (n + 1) % 8 = p ∨ (n + 1) % 8 = q
  · rw [if_pos h1, if_pos h1, if_neg (by omega)]
    omega
  · rw [if_neg h1, if_neg h1]
    omega
def townMade.T8 : Bool × List (List Nat × List Nat) := (true, [([], []), ([], []), ([1], [1]), ([2], [2]), ([0, 3], [0, 3]), ([4], [4]), ([], []), ([], []), ([6, 7], [6, 7]), ([8], [8]), ([5, 9], [5, 9]), ([10, 6], [10]), ([11], [11]), ([11], [11]), ([13, 11], [11, 13]), ([14, 11], [11, 14]), ([12, 15, 11], [11, 12, 15]), ([16, 11], [11, 16]), ([11, 11], [11]), ([11], [11]), ([18, 19, 11], [11, 18, 19]), ([20, 11], [11, 20]), ([17, 21, 11], [11, 17, 21]), ([11, 22], [11, 22])])
def townMade.B8 : List Nat := [0, 0, 2, 6, 15, 31, 0, 0, 192, 448, 1023, 2047, 4095, 4095, 12287, 28671, 65535, 131071, 4095, 4095, 790527, 1839103, 4194303, 8388607]
theorem townMade.tab8 : rtab .any (opsOf Try.f4 8) = townMade.T8 := by kernel_rfl
theorem townMade.bits8 : waitsOk townMade.T8.2 townMade.B8 = true := by kernel_rfl
set_option maxRecDepth 100000 in
set_option maxHeartbeats 8000000 in
theorem townMade8_ok (A : Option Addr) (c : Nat) (xs : List (Int × Int × Int)) (hb : ∀ x ∈ xs, OkByte x.1 ∧ OkByte x.2.1 ∧ OkByte x.2.2) (hl : xs.length ≤ 9223372036854775807) (w : World) (hC : k3.C w A xs.length xs) :
    Calls Try.prog 4 #[.slice A xs.length c] w fun e w' => ∃ (chg : List S32) (v1 v2 : Value), e = .returned (.agg #[v1, v2]) ∧ (∀ x ∈ chg, ∃ n : Nat, n < 8 ∧ x.f2 = nm8 n) ∧ GoodTown first3 chg ∧ chg.length ≤ 7 ∧ Kd.string.R 9 w' w.heap.size (fun _ => True) v1 first3 ∧ k32.R 32 w' w.heap.size (fun _ => True) v2 chg ∧ Below w.heap.size w w' := by
  have HBY := Aside0.mk hb
  have HC := Aside0.mk hC
  have HNM := Lib.hid (fun W => smaltotop_sloeNames.calls names8 W sloeNames_f)
  clear hb hC
  go_enter Try.func4, Try.ntmps4
  go_wp2_with fail
  have BR0 := Aside0.mk (blk_new w (.cells #[.slice none 0 0, .slice none 0 0] 27))
  have HB0 := Aside0.mk (below_alloc (Below.refl w.heap.size w) (.cells #[.slice none 0 0, .slice none 0 0] 27))
  refine (HNM.out _).mono ?_
  rintro e w1 ⟨v, rfl, hv, hb1⟩
  obtain ⟨gn, c8, rfl, hgn0, hgn1, _⟩ := Kd.R_form hv (by decide)
  have hc8 := (Kd.R_reads' hv).2.1
  have hv' : Kd.string.R 9 w1 w.heap.size (fun _ => True) (.slice (some ⟨gn, 0, none⟩) 8 c8) names8 := Kd.R_lower hv (by simp)
  have HN1 := Aside0.mk hv'
  have HB1 := Aside0.mk (below_step HB0.out hb1)
  have BR1 := Aside0.mk (blk_below BR0.out hb1)
  have hcut := cut3 (some ⟨gn, 0, none⟩) c8 hc8
  change ∀ W, (Instr.slice 24 (.slice (some ⟨gn, 0, none⟩) 8 c8) none (some (.int .i64 3)) none).run Try.prog W = _ at hcut
  have hw1 : w.heap.size < w1.heap.size := blk_lt BR1.out
  clear hv hv' hb1 HB0 BR0
  rw [show names8.length = 8 from rfl]
  have hC3 : Kd.string.C w1 (some ⟨gn, 0, none⟩) 3 first3 := Kd.C_take (Kd.R_reads' HN1.out).2.2 (m := 3) (by decide)
  have HC3 := Aside0.mk hC3
  have BT2 := Aside0.mk (blk_new w1 (.cells #[.slice (some ⟨gn, 0, none⟩) 3 c8, .slice none 0 0] 27))
  have HB2 := Aside0.mk (below_alloc HB1.out (.cells #[.slice (some ⟨gn, 0, none⟩) 3 c8, .slice none 0 0] 27))
  have HB12 := Aside0.mk (below_alloc (Below.refl w1.heap.size w1) (.cells #[.slice (some ⟨gn, 0, none⟩) 3 c8, .slice none 0 0] 27))
  obtain ⟨w2, hw2⟩ : ∃ w2, w2 = w1.alloc (.cells #[.slice (some ⟨gn, 0, none⟩) 3 c8, .slice none 0 0] 27) := ⟨_, rfl⟩
  have hs2 : w2.heap.size = w1.heap.size + 1 := by rw [hw2]; simp
  have HE := Aside0.mk (R_empty Kd.string 9 w2 (fun _ => True) trivial)
  rw [← hw2] at BT2 HB2 HB12
  clear hC3
  go_wp2_with (at_builtin; rw [← hw2]; refine Kd.R_append_rows Kd.string (w0 := w2) w2.heap.size rfl (.tmp 12) (.tmp 14) 24 9 (.string ⟨#[]⟩) 16 rfl Try.underlying24 infoStr rfl (by decide) (by omega) (.slice (some ⟨w2.heap.size, 0, none⟩) 0 0) [] first3 _ _ _ (fun _ => True) (fun _ => False) (by rw [hs2]; rfl) rfl HE.out (Kd.C_alloc (Kd.C_below HC3.out HB12.out) _) (fun _ _ h => h) (fun _ h => h.elim) (fun _ _ => trivial) (below_alloc (Below.refl _ _) _) (by simp) (by simp) ?_; intro v4 w4 hv4 hb4 _ _; have HV4 := Aside0.mk hv4; have HB4 := Aside0.mk hb4; clear hv4 hb4)
  clear hw2
  obtain ⟨gw, cw, rfl, hgw0, hgw1, cells, hgwc⟩ := Kd.R_form HV4.out (by decide)
  rw [show ([] ++ first3 : List ByteArray).length = 3 from rfl] at HV4 ⊢
  have hgne : gn ≠ gw := by omega
  have HN4 := Aside0.mk (Kd.R_mono (Kd.R_tight rfl (Kd.R_below (Kd.R_below HN1.out HB12.out) HB4.out)) (ok' := fun k => k = gn) (fun k hk => by simpa [Value.ownBlock] using hk))
  have HW4 := Aside0.mk (Kd.R_mono (Kd.R_tight rfl (Kd.R_lower (base' := w.heap.size) HV4.out HB2.out.size)) (ok' := fun k => k = gw) (fun k hk => by simpa [Value.ownBlock] using hk))
  have BT4 := Aside0.mk (blk_below BT2.out HB4.out)
  have BR4 := Aside0.mk (blk_below (blk_below BR1.out HB12.out) HB4.out)
  have HBw4 := Aside0.mk (below_step HB2.out HB4.out)
  have htne : w1.heap.size ≠ gw := by omega
  have hrne : w.heap.size ≠ gw := by omega
  have hrt : w.heap.size ≠ w1.heap.size := by omega
  clear HV4 HB4 HE HB12 HB2 BT2 HC3 HB1 BR1 HN1 hcut
  go_loopw [5, 6, 7, 8] (fun s5 s6 _ _ wr => ∃ (chg : List S32) (at_ : Int) (a b c : Nat) (v5 : Value), s5 = .int .i64 at_ ∧ s6 = .int .i64 chg.length ∧ chg.length ≤ 7 ∧ chg.length ≤ xs.length ∧ Aside0 (Town3 chg at_ a b c) ∧ Aside0 (Kd.string.R 9 wr w.heap.size (fun k => k = gw) (.slice (some ⟨gw, 0, none⟩) 3 cw) [nm8 a, nm8 b, nm8 c]) ∧ Aside0 (Kd.string.R 9 wr w.heap.size (fun k => k = gn) (.slice (some ⟨gn, 0, none⟩) 8 c8) names8)
      ∧ Aside0 (wr.heap[w1.heap.size]? = some (.cells #[.slice (some ⟨gn, 0, none⟩) 3 c8, v5] 27 (0, 0))) ∧ Aside0 (k32.R 32 wr w.heap.size (fun _ => True) v5 chg) ∧ Aside0 (wr.heap[w.heap.size]? = some (.cells #[.slice none 0 0, .slice none 0 0] 27 (0, 0))) ∧ Aside0 (Below w.heap.size w wr)) (fun _ s6 _ _ _ => 8 - (intOf s6).toNat)
  case atStart => exact ⟨[], 0, 0, 1, 2, _, rfl, rfl, by simp, by simp, ⟨Town3.start⟩, HW4, HN4, BT4, ⟨Kd.R_nil _ _ _ _ _⟩, BR4, HBw4⟩
  case round =>
    clear HW4 HN4 BT4 BR4 HBw4
    obtain ⟨chg, at_, a, b, c', v5, rfl, rfl, hl7, hlx, HT, HW, HN, BT, HV, BR, HB⟩ := hrel
    rename World => wo
    obtain ⟨A5, j5, rfl⟩ := Kd.R_slice HV.out
    by_cases hgo : chg.length < xs.length ∧ chg.length < 7
    · obtain ⟨hgo1, hgo2⟩ := hgo
      have hz1 : (chg.length : Int) < (xs.length : Int) := by omega
      have hz2 : (chg.length : Int) < 7 := by omega
      obtain ⟨ad, eA, x0, x1, x2⟩ := at_3 (Kd.C_below HC.out HB.out) chg.length hgo1
      rw [getD_at xs _ _ hgo1] at x0 x1 x2
      obtain ⟨y0, y1, y2⟩ := HBY.out xs[chg.length] (List.getElem_mem hgo1)
      subst eA
      generalize xs[chg.length] = x at x0 x1 x2 y0 y1 y2
      obtain ⟨b0, b1, b2⟩ := x
      simp only at x0 x1 x2 y0 y1 y2
      obtain ⟨t1, t2, t3, t4, t5, t6, t7, t8, t9, t10, t11, t12, t13, t14⟩ := HT.out
      clear t1 t2 t3 t4 t5 t14
      obtain ⟨d, hd, hd1, hd2⟩ : ∃ d : Int, wrap64 (1 + (wrap64 b0).tmod 140) = d ∧ 1 ≤ d ∧ d ≤ 140 := by
        rw [wrapB y0, tmod_pos y0.1]
        have := y0.1
        have := y0.2
        exact ⟨1 + b0 % 140, w64_in _ (by omega), by omega, by omega⟩
      have hda : wrap64 (at_ + d) = at_ + d := w64_in _ (by omega)
      obtain ⟨s, hs, hs0, hs3⟩ : ∃ s : Int, Int.tmod b1 3 = s ∧ 0 ≤ s ∧ s < 3 := ⟨_, tmod_pos y1.1, by omega, by omega⟩
      obtain ⟨n, hn, hn8⟩ : ∃ n : Nat, Int.tmod b2 8 = (n : Int) ∧ n < 8 := ⟨(b2 % 8).toNat, by rw [tmod_pos y2.1]; omega, by omega⟩
      have hwb1 : IntKind.i64.wrap b1 = b1 := by have := y1.1; have := y1.2; rw [IntKind.wrap_i64]; omega
      have hwb2 : IntKind.i64.wrap b2 = b2 := by have := y2.1; have := y2.2; rw [IntKind.wrap_i64]; omega
      have hz0 : (0 : Int) ≤ (chg.length : Int) := by omega
      go_wp2_with fail
      try rw [hd]
      try rw [hda]
      go_quiet (fail)
      have HT7 := HT
      have HW7 := Aside0.mk (Kd.R_drewN HW.out nq)
      have HN7 := Aside0.mk (Kd.R_drewN HN.out nq)
      have BT7 := Aside0.mk (blk_drewN BT.out nq)
      have HV7 := Aside0.mk (Kd.R_drewN HV.out nq)
      have BR7 := Aside0.mk (blk_drewN BR.out nq)
      have HB7 := Aside0.mk (pw_below_drewN HB.out nq)
      generalize wo.drewN nq = w7 at HW7 HN7 BT7 HV7 BR7 HB7 ⊢
      clear HW HN BT HV BR HB hd hda hs hn hwb1 hwb2 x0 x1 x2 hz0
      -- the two other streets
      obtain ⟨p, q, jp, jq, hp, hq, hp3, hq3, hjp, hjq, hjpq, hcp, hcq, hnx⟩ : ∃ (p q jp jq : Nat), Int.tmod (s + 1) 3 = (p : Int) ∧ Int.tmod (s + 2) 3 = (q : Int) ∧ p < 3 ∧ q < 3 ∧ jp < 8 ∧ jq < 8 ∧ jp ≠ jq ∧ ([nm8 a, nm8 b, nm8 c'] : List ByteArray).getD p ByteArray.empty = nm8 jp ∧ ([nm8 a, nm8 b, nm8 c'] : List ByteArray).getD q ByteArray.empty = nm8 jq ∧
          (∀ m : Nat, m ≠ jp → m ≠ jq → ∃ a' b' c'', [nm8 a', nm8 b', nm8 c''] = ([nm8 a, nm8 b, nm8 c'] : List ByteArray).set s.toNat (nm8 m) ∧ ((s = 0 ∧ m ≠ b ∧ m ≠ c' ∧ a' = m ∧ b' = b ∧ c'' = c') ∨ (s = 1 ∧ m ≠ a ∧ m ≠ c' ∧ a' = a ∧ b' = m ∧ c'' = c') ∨ (s = 2 ∧ m ≠ a ∧ m ≠ b ∧ a' = a ∧ b' = b ∧ c'' = m))) := by
        have h3 : s = 0 ∨ s = 1 ∨ s = 2 := by omega
        rcases h3 with rfl | rfl | rfl
        · exact ⟨1, 2, b, c', rfl, rfl, by omega, by omega, t7, t8, t11, rfl, rfl, fun m h1 h2 => ⟨m, b, c', rfl, .inl ⟨rfl, h1, h2, rfl, rfl, rfl⟩⟩⟩
        · exact ⟨2, 0, c', a, rfl, rfl, by omega, by omega, t8, t6, fun e => t10 e.symm, rfl, rfl, fun m h1 h2 => ⟨a, m, c', rfl, .inr (.inl ⟨rfl, h2, h1, rfl, rfl, rfl⟩)⟩⟩
        · exact ⟨0, 1, a, b, rfl, rfl, by omega, by omega, t6, t7, t9, rfl, rfl, fun m h1 h2 => ⟨a, b, m, rfl, .inr (.inr ⟨rfl, h1, h2, rfl, rfl, rfl⟩)⟩⟩
      have HNX := Aside0.mk hnx
      clear hnx
      have hl8 : names8.length = 8 := rfl
      go_wp2_with fail
      go_loopw [8] (fun s8 wi => ∃ m : Nat, m < 8 ∧ s8 = .int .i64 m ∧ Aside0 (Below w7.heap.size w7 wi)) (fun s8 _ => nFree jp jq (intOf s8).toNat)
      case atStart => exact ⟨n, hn8, rfl, ⟨Below.refl _ _⟩⟩
      case round =>
        obtain ⟨m, hm8, rfl, HBi⟩ := hrel
        rename World => wi
        have HWi := Aside0.mk (Kd.R_below HW7.out HBi.out)
        obtain ⟨ad1, e1, z1⟩ := C_str_at (Kd.R_reads' HWi.out).2.2 p hp3
        obtain ⟨ad2, e2, z2⟩ := C_str_at (Kd.R_reads' HWi.out).2.2 q hq3
        cases e1
        cases e2
        rw [add_plain] at z1 z2
        rw [hcp] at z1
        rw [hcq] at z2
        have hgwi : gw < wi.heap.size := World.block_lt_of_cell? _ _ z1
        have hxz : ((nm8 jp).toList == (nm8 m).toList) = decide (jp = m) := by
          by_cases h : jp = m
          · subst h; simp
          · rw [strNe (fun e => h (nm8_inj _ _ hjp hm8 e)), decide_eq_false h]
        have hyz : ((nm8 jq).toList == (nm8 m).toList) = decide (jq = m) := by
          by_cases h : jq = m
          · subst h; simp
          · rw [strNe (fun e => h (nm8_inj _ _ hjq hm8 e)), decide_eq_false h]
        have hws1 : IntKind.i64.wrap (s + 1) = s + 1 := by rw [IntKind.wrap_i64]; omega
        have hws2 : IntKind.i64.wrap (s + 2) = s + 2 := by rw [IntKind.wrap_i64]; omega
        have hpz : (p : Int) < 3 := by omega
        have hqz : (q : Int) < 3 := by omega
        have hmz : (m : Int) < 8 := by omega
        have hp0 : (0 : Int) ≤ (p : Int) := by omega
        have hq0 : (0 : Int) ≤ (q : Int) := by omega
        have hm0 : (0 : Int) ≤ (m : Int) := by omega
        go_wp2_with fail
        go_cut [73] from 50 to 73 (fun s73 wx => s73 = .bool (decide (jp = m) || decide (jq = m)) ∧ Aside0 (Below wi.heap.size wi wx))
        case first =>
          generalize hX : nm8 jp = X at z1 hxz
          generalize hY : nm8 jq = Y at z2 hyz
          have hZ : names8.getD m ByteArray.empty = nm8 m := rfl
          generalize hZ' : nm8 m = Z at hxz hyz hZ
          clear HW7 HN7 BT7 HV7 BR7 HB7 HT7 HNX HBi HWi hX hY hZ' hcp hcq
          by_cases h1 : jp = m
          · have h1t := decide_eq_true h1
            rw [h1t] at hxz
            refine start_ (n := 24) (S := fun w' => True) (ds := []) #[false, false, false, false, false, false, false, false, false, false, false, false, false, false, false, false, false, false, false, false, false, false, false, false] (by kernel_rfl) rfl rfl trivial (fun hHeld => ?_)
            refine with_tabW townMade.tab8 townMade.bits8 (fun HT_ HW_ => ?_)
            have FB := Aside0.mk (below_drew (Below.refl wi.heap.size wi))
            generalize wi.drew = w8 at FB ⊢
            refine inv_at [0, 1, 2, 3, 4, 5, 6, 7, 8, 9, 10, 11, 12, 13, 14, 15, 16, 17, 18, 19, 20, 21, 22, 23] (fun a0_ b a w' => ∃ (g6_ : Nat) (c6_ : Nat) (m6_ : Value) (m8_ : Value), a = putSel a0_ b [(0, 50, .slice (some ⟨gw, 0, none⟩) 3 cw), (1, 51, .int .i64 s), (2, 52, .int .i64 (s + 1)), (3, 53, .int .i64 p), (4, 54, .pointer (some ⟨gw, p, none⟩)), (5, 55, .string X), (6, 56, m6_), (7, 57, .int .i64 m), (8, 58, m8_), (9, 59, .string Z), (10, 60, .bool true), (11, 61, .bool true), (12, 62, undef), (13, 63, undef), (14, 64, undef), (15, 65, undef), (16, 66, undef), (17, 67, undef), (18, 68, undef), (19, 69, undef), (20, 70, undef), (21, 71, undef), (22, 72, undef), (23, 73, .bool true)] ∧ (Below wi.heap.size wi w') ∧ (b 6 = true → w'.cell? ⟨g6_, m, none⟩ = some (.string Z)) ∧ (b 6 = true → (m6_ : Value) = .slice (some ⟨g6_, 0, none⟩) 8 c6_) ∧ (b 8 = true → (m8_ : Value) = .pointer (some ⟨g6_, m, none⟩))) HT_.out HW_.out (by kernel_rfl) (by kernel_rfl) ?_ ?_ ?_
            · exact ⟨0, 0, .bool false, .bool false, by simp only [putSel, Bool.false_eq_true, if_false], FB.out, fun h_ => absurd h_ (by decide), fun h_ => absurd h_ (by decide), fun h_ => absurd h_ (by decide)⟩
            · skip
              clear FB
              refine steps_cons ?_ ?_
              · rintro b a w' ⟨g6_, c6_, m6_, m8_, ha, Q_FB, Q_FN6, Q_X6_, Q_X8_⟩ hb_ hon hoff
                refine ⟨_, rfl, fun K hK => ?_⟩
                have e4 : a.tmps[4]? = some (.slice (some ⟨gw, 0, none⟩) 3 cw) := by rw [ha]; exact (putSel_off rfl).trans rfl
                replace ha := Aside0.mk ha
                have FB := Aside0.mk Q_FB
                refine value_ (w1 := w') (v := .slice (some ⟨gw, 0, none⟩) 3 cw) (by rfl) rfl ?_ ?_
                · go_simp
                  (try simp only [i64_w])
                  try rfl
                refine hK.out _ _ ⟨g6_, c6_, m6_, m8_, (by rw [ha.out]; exact putSel_upk 0 hb_ rfl rfl rfl), Q_FB, Q_FN6, Q_X6_, Q_X8_⟩
              refine steps_cons ?_ ?_
              · rintro b a w' ⟨g6_, c6_, m6_, m8_, ha, Q_FB, Q_FN6, Q_X6_, Q_X8_⟩ hb_ hon hoff
                refine ⟨_, rfl, fun K hK => ?_⟩
                have e7 : a.tmps[7]? = some (.int .i64 s) := by rw [ha]; exact (putSel_off rfl).trans rfl
                replace ha := Aside0.mk ha
                have FB := Aside0.mk Q_FB
                refine value_ (w1 := w') (v := .int .i64 s) (by rfl) rfl ?_ ?_
                · go_simp
                  (try simp only [i64_w])
                  try rfl
                refine hK.out _ _ ⟨g6_, c6_, m6_, m8_, (by rw [ha.out]; exact putSel_upk 1 hb_ rfl rfl rfl), Q_FB, Q_FN6, Q_X6_, Q_X8_⟩
              refine steps_cons ?_ ?_
              · rintro b a w' ⟨g6_, c6_, m6_, m8_, ha, Q_FB, Q_FN6, Q_X6_, Q_X8_⟩ hb_ hon hoff
                refine ⟨_, rfl, fun K hK => ?_⟩
                have e51 : a.tmps[51]? = some (.int .i64 s) := by rw [ha]; exact putSel_on (e := (1, 51, .int .i64 s)) 1 rfl rfl (hon 1 (by kernel_rfl)) rfl
                replace ha := Aside0.mk ha
                have FB := Aside0.mk Q_FB
                refine value_ (w1 := w') (v := .int .i64 (s + 1)) (by rfl) rfl ?_ ?_
                · go_simp
                  (try simp only [i64_w])
                  try rfl
                refine hK.out _ _ ⟨g6_, c6_, m6_, m8_, (by rw [ha.out]; exact putSel_upk 2 hb_ rfl rfl rfl), Q_FB, Q_FN6, Q_X6_, Q_X8_⟩
              refine steps_cons ?_ ?_
              · rintro b a w' ⟨g6_, c6_, m6_, m8_, ha, Q_FB, Q_FN6, Q_X6_, Q_X8_⟩ hb_ hon hoff
                refine ⟨_, rfl, fun K hK => ?_⟩
                have e52 : a.tmps[52]? = some (.int .i64 (s + 1)) := by rw [ha]; exact putSel_on (e := (2, 52, .int .i64 (s + 1))) 2 rfl rfl (hon 2 (by kernel_rfl)) rfl
                replace ha := Aside0.mk ha
                have FB := Aside0.mk Q_FB
                refine value_ (w1 := w') (v := .int .i64 p) (by rfl) rfl ?_ ?_
                · go_simp
                  (try simp only [i64_w])
                  try rfl
                refine hK.out _ _ ⟨g6_, c6_, m6_, m8_, (by rw [ha.out]; exact putSel_upk 3 hb_ rfl rfl rfl), Q_FB, Q_FN6, Q_X6_, Q_X8_⟩
              refine steps_cons ?_ ?_
              · rintro b a w' ⟨g6_, c6_, m6_, m8_, ha, Q_FB, Q_FN6, Q_X6_, Q_X8_⟩ hb_ hon hoff
                refine ⟨_, rfl, fun K hK => ?_⟩
                have e50 : a.tmps[50]? = some (.slice (some ⟨gw, 0, none⟩) 3 cw) := by rw [ha]; exact putSel_on (e := (0, 50, .slice (some ⟨gw, 0, none⟩) 3 cw)) 0 rfl rfl (hon 0 (by kernel_rfl)) rfl
                have e53 : a.tmps[53]? = some (.int .i64 p) := by rw [ha]; exact putSel_on (e := (3, 53, .int .i64 p)) 3 rfl rfl (hon 3 (by kernel_rfl)) rfl
                replace ha := Aside0.mk ha
                have FB := Aside0.mk Q_FB
                refine value_ (w1 := w') (v := .pointer (some ⟨gw, p, none⟩)) (by rfl) rfl ?_ ?_
                · go_simp
                  (try simp only [i64_w])
                  try rfl
                refine hK.out _ _ ⟨g6_, c6_, m6_, m8_, (by rw [ha.out]; exact putSel_upk 4 hb_ rfl rfl rfl), Q_FB, Q_FN6, Q_X6_, Q_X8_⟩
              refine steps_cons ?_ ?_
              · rintro b a w' ⟨g6_, c6_, m6_, m8_, ha, Q_FB, Q_FN6, Q_X6_, Q_X8_⟩ hb_ hon hoff
                refine ⟨_, rfl, fun K hK => ?_⟩
                have e54 : a.tmps[54]? = some (.pointer (some ⟨gw, p, none⟩)) := by rw [ha]; exact putSel_on (e := (4, 54, .pointer (some ⟨gw, p, none⟩))) 4 rfl rfl (hon 4 (by kernel_rfl)) rfl
                replace ha := Aside0.mk ha
                have FB := Aside0.mk Q_FB
                have hs_ : w'.cell? ⟨gw, p, none⟩ = some (.string X) := (FB.out.cell (p := ⟨gw, p, none⟩) hgwi).trans z1
                refine value_ (w1 := w') (v := .string X) (by rfl) rfl ?_ ?_
                · go_simp
                  (try simp only [i64_w])
                  try rfl
                refine hK.out _ _ ⟨g6_, c6_, m6_, m8_, (by rw [ha.out]; exact putSel_upk 5 hb_ rfl rfl rfl), Q_FB, Q_FN6, Q_X6_, Q_X8_⟩
              refine steps_cons ?_ ?_
              · rintro b a w' ⟨g6_, c6_, m6_, m8_, ha, Q_FB, Q_FN6, Q_X6_, Q_X8_⟩ hb_ hon hoff
                refine ⟨_, rfl, fun K hK => ?_⟩
                replace ha := Aside0.mk ha
                have FB := Aside0.mk Q_FB
                refine goes_ Try.func13 (by kernel_rfl) rfl #[] (by rfl) rfl rfl (by first | rfl | simp) ?_
                refine (HNM.out _).mono ?_
                rintro e w2_ ⟨v, rfl, hvN, hbN⟩
                refine ⟨_, rfl, ?_⟩
                obtain ⟨g', cn', rfl, _⟩ := Kd.R_form hvN (by decide)
                obtain ⟨ad', e', cN⟩ := C_str_at (Kd.R_reads' hvN).2.2 m (by rw [hl8]; exact hm8)
                cases e'
                rw [add_plain, hZ] at cN
                rw [show names8.length = 8 from rfl]
                refine hK.out _ _ ⟨g', cn', (.slice (some ⟨g', 0, none⟩) 8 cn'), m8_, (by rw [ha.out]; exact putSel_upk 6 hb_ rfl rfl rfl), FB.out.trans (hbN.mono FB.out.size), fun _ => cN, fun _ => rfl, fun h0_ => absurd ((hoff 8 (by kernel_rfl)).symm.trans h0_) (by decide)⟩
              refine steps_cons ?_ ?_
              · rintro b a w' ⟨g6_, c6_, m6_, m8_, ha, Q_FB, Q_FN6, Q_X6_, Q_X8_⟩ hb_ hon hoff
                refine ⟨_, rfl, fun K hK => ?_⟩
                have e8 : a.tmps[8]? = some (.int .i64 m) := by rw [ha]; exact (putSel_off rfl).trans rfl
                replace ha := Aside0.mk ha
                have FB := Aside0.mk Q_FB
                refine value_ (w1 := w') (v := .int .i64 m) (by rfl) rfl ?_ ?_
                · go_simp
                  (try simp only [i64_w])
                  try rfl
                refine hK.out _ _ ⟨g6_, c6_, m6_, m8_, (by rw [ha.out]; exact putSel_upk 7 hb_ rfl rfl rfl), Q_FB, Q_FN6, Q_X6_, fun h0_ => absurd ((hoff 8 (by kernel_rfl)).symm.trans h0_) (by decide)⟩
              refine steps_cons ?_ ?_
              · rintro b a w' ⟨g6_, c6_, m6_, m8_, ha, Q_FB, Q_FN6, Q_X6_, Q_X8_⟩ hb_ hon hoff
                refine ⟨_, rfl, fun K hK => ?_⟩
                have e56 : a.tmps[56]? = some (m6_) := by rw [ha]; exact putSel_on (e := (6, 56, m6_)) 6 rfl rfl (hon 6 (by kernel_rfl)) rfl
                rw [Q_X6_ (hon 6 (by kernel_rfl))] at e56
                have e57 : a.tmps[57]? = some (.int .i64 m) := by rw [ha]; exact putSel_on (e := (7, 57, .int .i64 m)) 7 rfl rfl (hon 7 (by kernel_rfl)) rfl
                replace ha := Aside0.mk ha
                have FB := Aside0.mk Q_FB
                have FN6 := Aside0.mk (Q_FN6 (hon 6 (by kernel_rfl)))
                refine value_ (w1 := w') (v := .pointer (some ⟨g6_, m, none⟩)) (by rfl) rfl ?_ ?_
                · go_simp
                  (try simp only [i64_w])
                  try rfl
                refine hK.out _ _ ⟨g6_, c6_, m6_, (.pointer (some ⟨g6_, m, none⟩)), (by rw [ha.out]; exact putSel_upk 8 hb_ rfl rfl rfl), Q_FB, Q_FN6, Q_X6_, fun _ => rfl⟩
              refine steps_cons ?_ ?_
              · rintro b a w' ⟨g6_, c6_, m6_, m8_, ha, Q_FB, Q_FN6, Q_X6_, Q_X8_⟩ hb_ hon hoff
                refine ⟨_, rfl, fun K hK => ?_⟩
                have e58 : a.tmps[58]? = some (m8_) := by rw [ha]; exact putSel_on (e := (8, 58, m8_)) 8 rfl rfl (hon 8 (by kernel_rfl)) rfl
                rw [Q_X8_ (hon 8 (by kernel_rfl))] at e58
                replace ha := Aside0.mk ha
                have FB := Aside0.mk Q_FB
                have FN6 := Aside0.mk (Q_FN6 (hon 6 (by kernel_rfl)))
                have hs_ := FN6.out
                refine value_ (w1 := w') (v := .string Z) (by rfl) rfl ?_ ?_
                · go_simp
                  (try simp only [i64_w])
                  try rfl
                refine hK.out _ _ ⟨g6_, c6_, m6_, m8_, (by rw [ha.out]; exact putSel_upk 9 hb_ rfl rfl rfl), Q_FB, Q_FN6, Q_X6_, Q_X8_⟩
              refine steps_cons ?_ ?_
              · rintro b a w' ⟨g6_, c6_, m6_, m8_, ha, Q_FB, Q_FN6, Q_X6_, Q_X8_⟩ hb_ hon hoff
                refine ⟨_, rfl, fun K hK => ?_⟩
                have e55 : a.tmps[55]? = some (.string X) := by rw [ha]; exact putSel_on (e := (5, 55, .string X)) 5 rfl rfl (hon 5 (by kernel_rfl)) rfl
                have e59 : a.tmps[59]? = some (.string Z) := by rw [ha]; exact putSel_on (e := (9, 59, .string Z)) 9 rfl rfl (hon 9 (by kernel_rfl)) rfl
                replace ha := Aside0.mk ha
                have FB := Aside0.mk Q_FB
                have FN6 := Aside0.mk (Q_FN6 (hon 6 (by kernel_rfl)))
                refine value_ (w1 := w') (v := .bool true) (by rfl) rfl ?_ ?_
                · go_simp
                  (try simp only [i64_w])
                  try rfl
                refine hK.out _ _ ⟨g6_, c6_, m6_, m8_, (by rw [ha.out]; exact putSel_upk 10 hb_ rfl rfl rfl), Q_FB, Q_FN6, Q_X6_, Q_X8_⟩
              refine steps_cons ?_ ?_
              · rintro b a w' ⟨g6_, c6_, m6_, m8_, ha, Q_FB, Q_FN6, Q_X6_, Q_X8_⟩ hb_ hon hoff
                refine ⟨_, rfl, fun K hK => ?_⟩
                have e60 : a.tmps[60]? = some (.bool true) := by rw [ha]; exact putSel_on (e := (10, 60, .bool true)) 10 rfl rfl (hon 10 (by kernel_rfl)) rfl
                replace ha := Aside0.mk ha
                have FB := Aside0.mk Q_FB
                have FN6 := Aside0.mk (Q_FN6 (hon 6 (by kernel_rfl)))
                refine value_ (w1 := w') (v := .bool true) (by rfl) rfl ?_ ?_
                · go_simp
                  (try simp only [i64_w])
                  try rfl
                refine hK.out _ _ ⟨g6_, c6_, m6_, m8_, (by rw [ha.out]; exact putSel_upk 11 hb_ rfl rfl rfl), Q_FB, Q_FN6, Q_X6_, Q_X8_⟩
              refine steps_cons ?_ ?_
              · rintro b a w' ⟨g6_, c6_, m6_, m8_, ha, Q_FB, Q_FN6, Q_X6_, Q_X8_⟩ hb_ hon hoff
                refine ⟨_, rfl, fun K hK => ?_⟩
                have e61 : a.tmps[61]? = some (.bool true) := by rw [ha]; exact putSel_on (e := (11, 61, .bool true)) 11 rfl rfl (hon 11 (by kernel_rfl)) rfl
                replace ha := Aside0.mk ha
                have FB := Aside0.mk Q_FB
                have FN6 := Aside0.mk (Q_FN6 (hon 6 (by kernel_rfl)))
                refine off_ (wanted_off rfl rfl rfl (e61.trans (by first | rfl | (simp [*]; done)))) ?_
                refine hK.out _ _ ⟨g6_, c6_, m6_, m8_, (by rw [ha.out]; exact putSel_upk 12 hb_ rfl rfl rfl), Q_FB, Q_FN6, Q_X6_, Q_X8_⟩
              refine steps_cons ?_ ?_
              · rintro b a w' ⟨g6_, c6_, m6_, m8_, ha, Q_FB, Q_FN6, Q_X6_, Q_X8_⟩ hb_ hon hoff
                refine ⟨_, rfl, fun K hK => ?_⟩
                have e61 : a.tmps[61]? = some (.bool true) := by rw [ha]; exact putSel_on (e := (11, 61, .bool true)) 11 rfl rfl (hon 11 (by kernel_rfl)) rfl
                replace ha := Aside0.mk ha
                have FB := Aside0.mk Q_FB
                have FN6 := Aside0.mk (Q_FN6 (hon 6 (by kernel_rfl)))
                refine off_ (wanted_off rfl rfl rfl (e61.trans (by first | rfl | (simp [*]; done)))) ?_
                refine hK.out _ _ ⟨g6_, c6_, m6_, m8_, (by rw [ha.out]; exact putSel_upk 13 hb_ rfl rfl rfl), Q_FB, Q_FN6, Q_X6_, Q_X8_⟩
              refine steps_cons ?_ ?_
              · rintro b a w' ⟨g6_, c6_, m6_, m8_, ha, Q_FB, Q_FN6, Q_X6_, Q_X8_⟩ hb_ hon hoff
                refine ⟨_, rfl, fun K hK => ?_⟩
                have e61 : a.tmps[61]? = some (.bool true) := by rw [ha]; exact putSel_on (e := (11, 61, .bool true)) 11 rfl rfl (hon 11 (by kernel_rfl)) rfl
                replace ha := Aside0.mk ha
                have FB := Aside0.mk Q_FB
                have FN6 := Aside0.mk (Q_FN6 (hon 6 (by kernel_rfl)))
                refine off_ (wanted_off rfl rfl rfl (e61.trans (by first | rfl | (simp [*]; done)))) ?_
                refine hK.out _ _ ⟨g6_, c6_, m6_, m8_, (by rw [ha.out]; exact putSel_upk 14 hb_ rfl rfl rfl), Q_FB, Q_FN6, Q_X6_, Q_X8_⟩
              refine steps_cons ?_ ?_
              · rintro b a w' ⟨g6_, c6_, m6_, m8_, ha, Q_FB, Q_FN6, Q_X6_, Q_X8_⟩ hb_ hon hoff
                refine ⟨_, rfl, fun K hK => ?_⟩
                have e61 : a.tmps[61]? = some (.bool true) := by rw [ha]; exact putSel_on (e := (11, 61, .bool true)) 11 rfl rfl (hon 11 (by kernel_rfl)) rfl
                replace ha := Aside0.mk ha
                have FB := Aside0.mk Q_FB
                have FN6 := Aside0.mk (Q_FN6 (hon 6 (by kernel_rfl)))
                refine off_ (wanted_off rfl rfl rfl (e61.trans (by first | rfl | (simp [*]; done)))) ?_
                refine hK.out _ _ ⟨g6_, c6_, m6_, m8_, (by rw [ha.out]; exact putSel_upk 15 hb_ rfl rfl rfl), Q_FB, Q_FN6, Q_X6_, Q_X8_⟩
              refine steps_cons ?_ ?_
              · rintro b a w' ⟨g6_, c6_, m6_, m8_, ha, Q_FB, Q_FN6, Q_X6_, Q_X8_⟩ hb_ hon hoff
                refine ⟨_, rfl, fun K hK => ?_⟩
                have e61 : a.tmps[61]? = some (.bool true) := by rw [ha]; exact putSel_on (e := (11, 61, .bool true)) 11 rfl rfl (hon 11 (by kernel_rfl)) rfl
                replace ha := Aside0.mk ha
                have FB := Aside0.mk Q_FB
                have FN6 := Aside0.mk (Q_FN6 (hon 6 (by kernel_rfl)))
                refine off_ (wanted_off rfl rfl rfl (e61.trans (by first | rfl | (simp [*]; done)))) ?_
                refine hK.out _ _ ⟨g6_, c6_, m6_, m8_, (by rw [ha.out]; exact putSel_upk 16 hb_ rfl rfl rfl), Q_FB, Q_FN6, Q_X6_, Q_X8_⟩
              refine steps_cons ?_ ?_
              · rintro b a w' ⟨g6_, c6_, m6_, m8_, ha, Q_FB, Q_FN6, Q_X6_, Q_X8_⟩ hb_ hon hoff
                refine ⟨_, rfl, fun K hK => ?_⟩
                have e61 : a.tmps[61]? = some (.bool true) := by rw [ha]; exact putSel_on (e := (11, 61, .bool true)) 11 rfl rfl (hon 11 (by kernel_rfl)) rfl
                replace ha := Aside0.mk ha
                have FB := Aside0.mk Q_FB
                have FN6 := Aside0.mk (Q_FN6 (hon 6 (by kernel_rfl)))
                refine off_ (wanted_off rfl rfl rfl (e61.trans (by first | rfl | (simp [*]; done)))) ?_
                refine hK.out _ _ ⟨g6_, c6_, m6_, m8_, (by rw [ha.out]; exact putSel_upk 17 hb_ rfl rfl rfl), Q_FB, Q_FN6, Q_X6_, Q_X8_⟩
              refine steps_cons ?_ ?_
              · rintro b a w' ⟨g6_, c6_, m6_, m8_, ha, Q_FB, Q_FN6, Q_X6_, Q_X8_⟩ hb_ hon hoff
                refine ⟨_, rfl, fun K hK => ?_⟩
                have e61 : a.tmps[61]? = some (.bool true) := by rw [ha]; exact putSel_on (e := (11, 61, .bool true)) 11 rfl rfl (hon 11 (by kernel_rfl)) rfl
                replace ha := Aside0.mk ha
                have FB := Aside0.mk Q_FB
                have FN6 := Aside0.mk (Q_FN6 (hon 6 (by kernel_rfl)))
                refine off_ (wanted_off rfl rfl rfl (e61.trans (by first | rfl | (simp [*]; done)))) ?_
                refine hK.out _ _ ⟨g6_, c6_, m6_, m8_, (by rw [ha.out]; exact putSel_upk 18 hb_ rfl rfl rfl), Q_FB, Q_FN6, Q_X6_, Q_X8_⟩
              refine steps_cons ?_ ?_
              · rintro b a w' ⟨g6_, c6_, m6_, m8_, ha, Q_FB, Q_FN6, Q_X6_, Q_X8_⟩ hb_ hon hoff
                refine ⟨_, rfl, fun K hK => ?_⟩
                have e61 : a.tmps[61]? = some (.bool true) := by rw [ha]; exact putSel_on (e := (11, 61, .bool true)) 11 rfl rfl (hon 11 (by kernel_rfl)) rfl
                replace ha := Aside0.mk ha
                have FB := Aside0.mk Q_FB
                have FN6 := Aside0.mk (Q_FN6 (hon 6 (by kernel_rfl)))
                refine off_ (wanted_off rfl rfl rfl (e61.trans (by first | rfl | (simp [*]; done)))) ?_
                refine hK.out _ _ ⟨g6_, c6_, m6_, m8_, (by rw [ha.out]; exact putSel_upk 19 hb_ rfl rfl rfl), Q_FB, Q_FN6, Q_X6_, Q_X8_⟩
              refine steps_cons ?_ ?_
              · rintro b a w' ⟨g6_, c6_, m6_, m8_, ha, Q_FB, Q_FN6, Q_X6_, Q_X8_⟩ hb_ hon hoff
                refine ⟨_, rfl, fun K hK => ?_⟩
                have e61 : a.tmps[61]? = some (.bool true) := by rw [ha]; exact putSel_on (e := (11, 61, .bool true)) 11 rfl rfl (hon 11 (by kernel_rfl)) rfl
                replace ha := Aside0.mk ha
                have FB := Aside0.mk Q_FB
                have FN6 := Aside0.mk (Q_FN6 (hon 6 (by kernel_rfl)))
                refine off_ (wanted_off rfl rfl rfl (e61.trans (by first | rfl | (simp [*]; done)))) ?_
                refine hK.out _ _ ⟨g6_, c6_, m6_, m8_, (by rw [ha.out]; exact putSel_upk 20 hb_ rfl rfl rfl), Q_FB, Q_FN6, Q_X6_, Q_X8_⟩
              refine steps_cons ?_ ?_
              · rintro b a w' ⟨g6_, c6_, m6_, m8_, ha, Q_FB, Q_FN6, Q_X6_, Q_X8_⟩ hb_ hon hoff
                refine ⟨_, rfl, fun K hK => ?_⟩
                have e61 : a.tmps[61]? = some (.bool true) := by rw [ha]; exact putSel_on (e := (11, 61, .bool true)) 11 rfl rfl (hon 11 (by kernel_rfl)) rfl
                replace ha := Aside0.mk ha
                have FB := Aside0.mk Q_FB
                have FN6 := Aside0.mk (Q_FN6 (hon 6 (by kernel_rfl)))
                refine off_ (wanted_off rfl rfl rfl (e61.trans (by first | rfl | (simp [*]; done)))) ?_
                refine hK.out _ _ ⟨g6_, c6_, m6_, m8_, (by rw [ha.out]; exact putSel_upk 21 hb_ rfl rfl rfl), Q_FB, Q_FN6, Q_X6_, Q_X8_⟩
              refine steps_cons ?_ ?_
              · rintro b a w' ⟨g6_, c6_, m6_, m8_, ha, Q_FB, Q_FN6, Q_X6_, Q_X8_⟩ hb_ hon hoff
                refine ⟨_, rfl, fun K hK => ?_⟩
                have e61 : a.tmps[61]? = some (.bool true) := by rw [ha]; exact putSel_on (e := (11, 61, .bool true)) 11 rfl rfl (hon 11 (by kernel_rfl)) rfl
                replace ha := Aside0.mk ha
                have FB := Aside0.mk Q_FB
                have FN6 := Aside0.mk (Q_FN6 (hon 6 (by kernel_rfl)))
                refine off_ (wanted_off rfl rfl rfl (e61.trans (by first | rfl | (simp [*]; done)))) ?_
                refine hK.out _ _ ⟨g6_, c6_, m6_, m8_, (by rw [ha.out]; exact putSel_upk 22 hb_ rfl rfl rfl), Q_FB, Q_FN6, Q_X6_, Q_X8_⟩
              refine steps_cons ?_ ?_
              · rintro b a w' ⟨g6_, c6_, m6_, m8_, ha, Q_FB, Q_FN6, Q_X6_, Q_X8_⟩ hb_ hon hoff
                refine ⟨_, rfl, fun K hK => ?_⟩
                have e61 : a.tmps[61]? = some (.bool true) := by rw [ha]; exact putSel_on (e := (11, 61, .bool true)) 11 rfl rfl (hon 11 (by kernel_rfl)) rfl
                have e72 : a.tmps[72]? = some (undef) := by rw [ha]; exact putSel_on (e := (22, 72, undef)) 22 rfl rfl (hon 22 (by kernel_rfl)) rfl
                replace ha := Aside0.mk ha
                have FB := Aside0.mk Q_FB
                have FN6 := Aside0.mk (Q_FN6 (hon 6 (by kernel_rfl)))
                refine value_ (w1 := w') (v := .bool true) (by rfl) rfl ?_ ?_
                · go_simp
                  (try simp only [i64_w])
                  try rfl
                refine hK.out _ _ ⟨g6_, c6_, m6_, m8_, (by rw [ha.out]; exact putSel_upk 23 hb_ rfl rfl rfl), Q_FB, Q_FN6, Q_X6_, Q_X8_⟩
              exact steps_nil
            · rintro b a w' hall ⟨g6_, c6_, m6_, m8_, ha, Q_FB, Q_FN6, Q_X6_, Q_X8_⟩
              clear FB
              have hb0_ := hall 0 (by kernel_rfl)
              have hb1_ := hall 1 (by kernel_rfl)
              have hb2_ := hall 2 (by kernel_rfl)
              have hb3_ := hall 3 (by kernel_rfl)
              have hb4_ := hall 4 (by kernel_rfl)
              have hb5_ := hall 5 (by kernel_rfl)
              have hb6_ := hall 6 (by kernel_rfl)
              have hb7_ := hall 7 (by kernel_rfl)
              have hb8_ := hall 8 (by kernel_rfl)
              have hb9_ := hall 9 (by kernel_rfl)
              have hb10_ := hall 10 (by kernel_rfl)
              have hb11_ := hall 11 (by kernel_rfl)
              have hb12_ := hall 12 (by kernel_rfl)
              have hb13_ := hall 13 (by kernel_rfl)
              have hb14_ := hall 14 (by kernel_rfl)
              have hb15_ := hall 15 (by kernel_rfl)
              have hb16_ := hall 16 (by kernel_rfl)
              have hb17_ := hall 17 (by kernel_rfl)
              have hb18_ := hall 18 (by kernel_rfl)
              have hb19_ := hall 19 (by kernel_rfl)
              have hb20_ := hall 20 (by kernel_rfl)
              have hb21_ := hall 21 (by kernel_rfl)
              have hb22_ := hall 22 (by kernel_rfl)
              have hb23_ := hall 23 (by kernel_rfl)
              subst ha
              obtain rfl := Q_X6_ hb6_
              obtain rfl := Q_X8_ hb8_
              simp only [putSel, hb0_, hb1_, hb2_, hb3_, hb4_, hb5_, hb6_, hb7_, hb8_, hb9_, hb10_, hb11_, hb12_, hb13_, hb14_, hb15_, hb16_, hb17_, hb18_, hb19_, hb20_, hb21_, hb22_, hb23_, if_true, Act.put, List.setIfInBounds_toArray, List.set_cons_zero, List.set_cons_succ]
              have FB := Aside0.mk Q_FB
              clear Q_FB
              have FN6 := Aside0.mk (Q_FN6 hb6_)
              clear Q_FN6
              clear hall hb0_ hb1_ hb2_ hb3_ hb4_ hb5_ hb6_ hb7_ hb8_ hb9_ hb10_ hb11_ hb12_ hb13_ hb14_ hb15_ hb16_ hb17_ hb18_ hb19_ hb20_ hb21_ hb22_ hb23_
              go_wp2_with fail
              go_meet
              exact ⟨by rw [h1t]; simp, FB⟩
          · have h1t := decide_eq_false h1
            rw [h1t] at hxz
            generalize hb2 : decide (jq = m) = b2 at hyz
            refine start_ (n := 24) (S := fun w' => True) (ds := []) #[false, false, false, false, false, false, false, false, false, false, false, false, false, false, false, false, false, false, false, false, false, false, false, false] (by kernel_rfl) rfl rfl trivial (fun hHeld => ?_)
            refine with_tabW townMade.tab8 townMade.bits8 (fun HT_ HW_ => ?_)
            have FB := Aside0.mk (below_drew (Below.refl wi.heap.size wi))
            generalize wi.drew = w8 at FB ⊢
            refine inv_at [0, 1, 2, 3, 4, 5, 6, 7, 8, 9, 10, 11, 12, 13, 14, 15, 16, 17, 18, 19, 20, 21, 22, 23] (fun a0_ b a w' => ∃ (g6_ : Nat) (c6_ : Nat) (g18_ : Nat) (c18_ : Nat) (m6_ : Value) (m8_ : Value) (m18_ : Value) (m20_ : Value), a = putSel a0_ b [(0, 50, .slice (some ⟨gw, 0, none⟩) 3 cw), (1, 51, .int .i64 s), (2, 52, .int .i64 (s + 1)), (3, 53, .int .i64 p), (4, 54, .pointer (some ⟨gw, p, none⟩)), (5, 55, .string X), (6, 56, m6_), (7, 57, .int .i64 m), (8, 58, m8_), (9, 59, .string Z), (10, 60, .bool false), (11, 61, .bool false), (12, 62, .slice (some ⟨gw, 0, none⟩) 3 cw), (13, 63, .int .i64 s), (14, 64, .int .i64 (s + 2)), (15, 65, .int .i64 q), (16, 66, .pointer (some ⟨gw, q, none⟩)), (17, 67, .string Y), (18, 68, m18_), (19, 69, .int .i64 m), (20, 70, m20_), (21, 71, .string Z), (22, 72, .bool b2), (23, 73, .bool b2)] ∧ (Below wi.heap.size wi w') ∧ (b 6 = true → w'.cell? ⟨g6_, m, none⟩ = some (.string Z)) ∧ (b 18 = true → w'.cell? ⟨g18_, m, none⟩ = some (.string Z)) ∧ (b 6 = true → (m6_ : Value) = .slice (some ⟨g6_, 0, none⟩) 8 c6_) ∧ (b 8 = true → (m8_ : Value) = .pointer (some ⟨g6_, m, none⟩)) ∧ (b 18 = true → (m18_ : Value) = .slice (some ⟨g18_, 0, none⟩) 8 c18_) ∧ (b 20 = true → (m20_ : Value) = .pointer (some ⟨g18_, m, none⟩))) HT_.out HW_.out (by kernel_rfl) (by kernel_rfl) ?_ ?_ ?_
            · exact ⟨0, 0, 0, 0, .bool false, .bool false, .bool false, .bool false, by simp only [putSel, Bool.false_eq_true, if_false], FB.out, fun h_ => absurd h_ (by decide), fun h_ => absurd h_ (by decide), fun h_ => absurd h_ (by decide), fun h_ => absurd h_ (by decide), fun h_ => absurd h_ (by decide), fun h_ => absurd h_ (by decide)⟩
            · skip
              clear FB
              refine steps_cons ?_ ?_
              · rintro b a w' ⟨g6_, c6_, g18_, c18_, m6_, m8_, m18_, m20_, ha, Q_FB, Q_FN6, Q_FN18, Q_X6_, Q_X8_, Q_X18_, Q_X20_⟩ hb_ hon hoff
                refine ⟨_, rfl, fun K hK => ?_⟩
                have e4 : a.tmps[4]? = some (.slice (some ⟨gw, 0, none⟩) 3 cw) := by rw [ha]; exact (putSel_off rfl).trans rfl
                replace ha := Aside0.mk ha
                have FB := Aside0.mk Q_FB
                refine value_ (w1 := w') (v := .slice (some ⟨gw, 0, none⟩) 3 cw) (by rfl) rfl ?_ ?_
                · go_simp
                  (try simp only [i64_w])
                  try rfl
                refine hK.out _ _ ⟨g6_, c6_, g18_, c18_, m6_, m8_, m18_, m20_, (by rw [ha.out]; exact putSel_upk 0 hb_ rfl rfl rfl), Q_FB, Q_FN6, fun h0_ => absurd ((hoff 18 (by kernel_rfl)).symm.trans h0_) (by decide), Q_X6_, Q_X8_, fun h0_ => absurd ((hoff 18 (by kernel_rfl)).symm.trans h0_) (by decide), fun h0_ => absurd ((hoff 20 (by kernel_rfl)).symm.trans h0_) (by decide)⟩
              refine steps_cons ?_ ?_
              · rintro b a w' ⟨g6_, c6_, g18_, c18_, m6_, m8_, m18_, m20_, ha, Q_FB, Q_FN6, Q_FN18, Q_X6_, Q_X8_, Q_X18_, Q_X20_⟩ hb_ hon hoff
                refine ⟨_, rfl, fun K hK => ?_⟩
                have e7 : a.tmps[7]? = some (.int .i64 s) := by rw [ha]; exact (putSel_off rfl).trans rfl
                replace ha := Aside0.mk ha
                have FB := Aside0.mk Q_FB
                refine value_ (w1 := w') (v := .int .i64 s) (by rfl) rfl ?_ ?_
                · go_simp
                  (try simp only [i64_w])
                  try rfl
                refine hK.out _ _ ⟨g6_, c6_, g18_, c18_, m6_, m8_, m18_, m20_, (by rw [ha.out]; exact putSel_upk 1 hb_ rfl rfl rfl), Q_FB, Q_FN6, fun h0_ => absurd ((hoff 18 (by kernel_rfl)).symm.trans h0_) (by decide), Q_X6_, Q_X8_, fun h0_ => absurd ((hoff 18 (by kernel_rfl)).symm.trans h0_) (by decide), fun h0_ => absurd ((hoff 20 (by kernel_rfl)).symm.trans h0_) (by decide)⟩
              refine steps_cons ?_ ?_
              · rintro b a w' ⟨g6_, c6_, g18_, c18_, m6_, m8_, m18_, m20_, ha, Q_FB, Q_FN6, Q_FN18, Q_X6_, Q_X8_, Q_X18_, Q_X20_⟩ hb_ hon hoff
                refine ⟨_, rfl, fun K hK => ?_⟩
                have e51 : a.tmps[51]? = some (.int .i64 s) := by rw [ha]; exact putSel_on (e := (1, 51, .int .i64 s)) 1 rfl rfl (hon 1 (by kernel_rfl)) rfl
                replace ha := Aside0.mk ha
                have FB := Aside0.mk Q_FB
                refine value_ (w1 := w') (v := .int .i64 (s + 1)) (by rfl) rfl ?_ ?_
                · go_simp
                  (try simp only [i64_w])
                  try rfl
                refine hK.out _ _ ⟨g6_, c6_, g18_, c18_, m6_, m8_, m18_, m20_, (by rw [ha.out]; exact putSel_upk 2 hb_ rfl rfl rfl), Q_FB, Q_FN6, fun h0_ => absurd ((hoff 18 (by kernel_rfl)).symm.trans h0_) (by decide), Q_X6_, Q_X8_, fun h0_ => absurd ((hoff 18 (by kernel_rfl)).symm.trans h0_) (by decide), fun h0_ => absurd ((hoff 20 (by kernel_rfl)).symm.trans h0_) (by decide)⟩
              refine steps_cons ?_ ?_
              · rintro b a w' ⟨g6_, c6_, g18_, c18_, m6_, m8_, m18_, m20_, ha, Q_FB, Q_FN6, Q_FN18, Q_X6_, Q_X8_, Q_X18_, Q_X20_⟩ hb_ hon hoff
                refine ⟨_, rfl, fun K hK => ?_⟩
                have e52 : a.tmps[52]? = some (.int .i64 (s + 1)) := by rw [ha]; exact putSel_on (e := (2, 52, .int .i64 (s + 1))) 2 rfl rfl (hon 2 (by kernel_rfl)) rfl
                replace ha := Aside0.mk ha
                have FB := Aside0.mk Q_FB
                refine value_ (w1 := w') (v := .int .i64 p) (by rfl) rfl ?_ ?_
                · go_simp
                  (try simp only [i64_w])
                  try rfl
                refine hK.out _ _ ⟨g6_, c6_, g18_, c18_, m6_, m8_, m18_, m20_, (by rw [ha.out]; exact putSel_upk 3 hb_ rfl rfl rfl), Q_FB, Q_FN6, fun h0_ => absurd ((hoff 18 (by kernel_rfl)).symm.trans h0_) (by decide), Q_X6_, Q_X8_, fun h0_ => absurd ((hoff 18 (by kernel_rfl)).symm.trans h0_) (by decide), fun h0_ => absurd ((hoff 20 (by kernel_rfl)).symm.trans h0_) (by decide)⟩
              refine steps_cons ?_ ?_
              · rintro b a w' ⟨g6_, c6_, g18_, c18_, m6_, m8_, m18_, m20_, ha, Q_FB, Q_FN6, Q_FN18, Q_X6_, Q_X8_, Q_X18_, Q_X20_⟩ hb_ hon hoff
                refine ⟨_, rfl, fun K hK => ?_⟩
                have e50 : a.tmps[50]? = some (.slice (some ⟨gw, 0, none⟩) 3 cw) := by rw [ha]; exact putSel_on (e := (0, 50, .slice (some ⟨gw, 0, none⟩) 3 cw)) 0 rfl rfl (hon 0 (by kernel_rfl)) rfl
                have e53 : a.tmps[53]? = some (.int .i64 p) := by rw [ha]; exact putSel_on (e := (3, 53, .int .i64 p)) 3 rfl rfl (hon 3 (by kernel_rfl)) rfl
                replace ha := Aside0.mk ha
                have FB := Aside0.mk Q_FB
                refine value_ (w1 := w') (v := .pointer (some ⟨gw, p, none⟩)) (by rfl) rfl ?_ ?_
                · go_simp
                  (try simp only [i64_w])
                  try rfl
                refine hK.out _ _ ⟨g6_, c6_, g18_, c18_, m6_, m8_, m18_, m20_, (by rw [ha.out]; exact putSel_upk 4 hb_ rfl rfl rfl), Q_FB, Q_FN6, fun h0_ => absurd ((hoff 18 (by kernel_rfl)).symm.trans h0_) (by decide), Q_X6_, Q_X8_, fun h0_ => absurd ((hoff 18 (by kernel_rfl)).symm.trans h0_) (by decide), fun h0_ => absurd ((hoff 20 (by kernel_rfl)).symm.trans h0_) (by decide)⟩
              refine steps_cons ?_ ?_
              · rintro b a w' ⟨g6_, c6_, g18_, c18_, m6_, m8_, m18_, m20_, ha, Q_FB, Q_FN6, Q_FN18, Q_X6_, Q_X8_, Q_X18_, Q_X20_⟩ hb_ hon hoff
                refine ⟨_, rfl, fun K hK => ?_⟩
                have e54 : a.tmps[54]? = some (.pointer (some ⟨gw, p, none⟩)) := by rw [ha]; exact putSel_on (e := (4, 54, .pointer (some ⟨gw, p, none⟩))) 4 rfl rfl (hon 4 (by kernel_rfl)) rfl
                replace ha := Aside0.mk ha
                have FB := Aside0.mk Q_FB
                have hs_ : w'.cell? ⟨gw, p, none⟩ = some (.string X) := (FB.out.cell (p := ⟨gw, p, none⟩) hgwi).trans z1
                refine value_ (w1 := w') (v := .string X) (by rfl) rfl ?_ ?_
                · go_simp
                  (try simp only [i64_w])
                  try rfl
                refine hK.out _ _ ⟨g6_, c6_, g18_, c18_, m6_, m8_, m18_, m20_, (by rw [ha.out]; exact putSel_upk 5 hb_ rfl rfl rfl), Q_FB, Q_FN6, fun h0_ => absurd ((hoff 18 (by kernel_rfl)).symm.trans h0_) (by decide), Q_X6_, Q_X8_, fun h0_ => absurd ((hoff 18 (by kernel_rfl)).symm.trans h0_) (by decide), fun h0_ => absurd ((hoff 20 (by kernel_rfl)).symm.trans h0_) (by decide)⟩
              refine steps_cons ?_ ?_
              · rintro b a w' ⟨g6_, c6_, g18_, c18_, m6_, m8_, m18_, m20_, ha, Q_FB, Q_FN6, Q_FN18, Q_X6_, Q_X8_, Q_X18_, Q_X20_⟩ hb_ hon hoff
                refine ⟨_, rfl, fun K hK => ?_⟩
                replace ha := Aside0.mk ha
                have FB := Aside0.mk Q_FB
                refine goes_ Try.func13 (by kernel_rfl) rfl #[] (by rfl) rfl rfl (by first | rfl | simp) ?_
                refine (HNM.out _).mono ?_
                rintro e w2_ ⟨v, rfl, hvN, hbN⟩
                refine ⟨_, rfl, ?_⟩
                obtain ⟨g', cn', rfl, _⟩ := Kd.R_form hvN (by decide)
                obtain ⟨ad', e', cN⟩ := C_str_at (Kd.R_reads' hvN).2.2 m (by rw [hl8]; exact hm8)
                cases e'
                rw [add_plain, hZ] at cN
                rw [show names8.length = 8 from rfl]
                refine hK.out _ _ ⟨g', cn', g18_, c18_, (.slice (some ⟨g', 0, none⟩) 8 cn'), m8_, m18_, m20_, (by rw [ha.out]; exact putSel_upk 6 hb_ rfl rfl rfl), FB.out.trans (hbN.mono FB.out.size), fun _ => cN, fun h0_ => absurd ((hoff 18 (by kernel_rfl)).symm.trans h0_) (by decide), fun _ => rfl, fun h0_ => absurd ((hoff 8 (by kernel_rfl)).symm.trans h0_) (by decide), fun h0_ => absurd ((hoff 18 (by kernel_rfl)).symm.trans h0_) (by decide), fun h0_ => absurd ((hoff 20 (by kernel_rfl)).symm.trans h0_) (by decide)⟩
              refine steps_cons ?_ ?_
              · rintro b a w' ⟨g6_, c6_, g18_, c18_, m6_, m8_, m18_, m20_, ha, Q_FB, Q_FN6, Q_FN18, Q_X6_, Q_X8_, Q_X18_, Q_X20_⟩ hb_ hon hoff
                refine ⟨_, rfl, fun K hK => ?_⟩
                have e8 : a.tmps[8]? = some (.int .i64 m) := by rw [ha]; exact (putSel_off rfl).trans rfl
                replace ha := Aside0.mk ha
                have FB := Aside0.mk Q_FB
                refine value_ (w1 := w') (v := .int .i64 m) (by rfl) rfl ?_ ?_
                · go_simp
                  (try simp only [i64_w])
                  try rfl
                refine hK.out _ _ ⟨g6_, c6_, g18_, c18_, m6_, m8_, m18_, m20_, (by rw [ha.out]; exact putSel_upk 7 hb_ rfl rfl rfl), Q_FB, Q_FN6, fun h0_ => absurd ((hoff 18 (by kernel_rfl)).symm.trans h0_) (by decide), Q_X6_, fun h0_ => absurd ((hoff 8 (by kernel_rfl)).symm.trans h0_) (by decide), fun h0_ => absurd ((hoff 18 (by kernel_rfl)).symm.trans h0_) (by decide), fun h0_ => absurd ((hoff 20 (by kernel_rfl)).symm.trans h0_) (by decide)⟩
              refine steps_cons ?_ ?_
              · rintro b a w' ⟨g6_, c6_, g18_, c18_, m6_, m8_, m18_, m20_, ha, Q_FB, Q_FN6, Q_FN18, Q_X6_, Q_X8_, Q_X18_, Q_X20_⟩ hb_ hon hoff
                refine ⟨_, rfl, fun K hK => ?_⟩
                have e56 : a.tmps[56]? = some (m6_) := by rw [ha]; exact putSel_on (e := (6, 56, m6_)) 6 rfl rfl (hon 6 (by kernel_rfl)) rfl
                rw [Q_X6_ (hon 6 (by kernel_rfl))] at e56
                have e57 : a.tmps[57]? = some (.int .i64 m) := by rw [ha]; exact putSel_on (e := (7, 57, .int .i64 m)) 7 rfl rfl (hon 7 (by kernel_rfl)) rfl
                replace ha := Aside0.mk ha
                have FB := Aside0.mk Q_FB
                have FN6 := Aside0.mk (Q_FN6 (hon 6 (by kernel_rfl)))
                refine value_ (w1 := w') (v := .pointer (some ⟨g6_, m, none⟩)) (by rfl) rfl ?_ ?_
                · go_simp
                  (try simp only [i64_w])
                  try rfl
                refine hK.out _ _ ⟨g6_, c6_, g18_, c18_, m6_, (.pointer (some ⟨g6_, m, none⟩)), m18_, m20_, (by rw [ha.out]; exact putSel_upk 8 hb_ rfl rfl rfl), Q_FB, Q_FN6, fun h0_ => absurd ((hoff 18 (by kernel_rfl)).symm.trans h0_) (by decide), Q_X6_, fun _ => rfl, fun h0_ => absurd ((hoff 18 (by kernel_rfl)).symm.trans h0_) (by decide), fun h0_ => absurd ((hoff 20 (by kernel_rfl)).symm.trans h0_) (by decide)⟩
              refine steps_cons ?_ ?_
              · rintro b a w' ⟨g6_, c6_, g18_, c18_, m6_, m8_, m18_, m20_, ha, Q_FB, Q_FN6, Q_FN18, Q_X6_, Q_X8_, Q_X18_, Q_X20_⟩ hb_ hon hoff
                refine ⟨_, rfl, fun K hK => ?_⟩
                have e58 : a.tmps[58]? = some (m8_) := by rw [ha]; exact putSel_on (e := (8, 58, m8_)) 8 rfl rfl (hon 8 (by kernel_rfl)) rfl
                rw [Q_X8_ (hon 8 (by kernel_rfl))] at e58
                replace ha := Aside0.mk ha
                have FB := Aside0.mk Q_FB
                have FN6 := Aside0.mk (Q_FN6 (hon 6 (by kernel_rfl)))
                have hs_ := FN6.out
                refine value_ (w1 := w') (v := .string Z) (by rfl) rfl ?_ ?_
                · go_simp
                  (try simp only [i64_w])
                  try rfl
                refine hK.out _ _ ⟨g6_, c6_, g18_, c18_, m6_, m8_, m18_, m20_, (by rw [ha.out]; exact putSel_upk 9 hb_ rfl rfl rfl), Q_FB, Q_FN6, fun h0_ => absurd ((hoff 18 (by kernel_rfl)).symm.trans h0_) (by decide), Q_X6_, Q_X8_, fun h0_ => absurd ((hoff 18 (by kernel_rfl)).symm.trans h0_) (by decide), fun h0_ => absurd ((hoff 20 (by kernel_rfl)).symm.trans h0_) (by decide)⟩
              refine steps_cons ?_ ?_
              · rintro b a w' ⟨g6_, c6_, g18_, c18_, m6_, m8_, m18_, m20_, ha, Q_FB, Q_FN6, Q_FN18, Q_X6_, Q_X8_, Q_X18_, Q_X20_⟩ hb_ hon hoff
                refine ⟨_, rfl, fun K hK => ?_⟩
                have e55 : a.tmps[55]? = some (.string X) := by rw [ha]; exact putSel_on (e := (5, 55, .string X)) 5 rfl rfl (hon 5 (by kernel_rfl)) rfl
                have e59 : a.tmps[59]? = some (.string Z) := by rw [ha]; exact putSel_on (e := (9, 59, .string Z)) 9 rfl rfl (hon 9 (by kernel_rfl)) rfl
                replace ha := Aside0.mk ha
                have FB := Aside0.mk Q_FB
                have FN6 := Aside0.mk (Q_FN6 (hon 6 (by kernel_rfl)))
                refine value_ (w1 := w') (v := .bool false) (by rfl) rfl ?_ ?_
                · go_simp
                  (try simp only [i64_w])
                  try rfl
                refine hK.out _ _ ⟨g6_, c6_, g18_, c18_, m6_, m8_, m18_, m20_, (by rw [ha.out]; exact putSel_upk 10 hb_ rfl rfl rfl), Q_FB, Q_FN6, fun h0_ => absurd ((hoff 18 (by kernel_rfl)).symm.trans h0_) (by decide), Q_X6_, Q_X8_, fun h0_ => absurd ((hoff 18 (by kernel_rfl)).symm.trans h0_) (by decide), fun h0_ => absurd ((hoff 20 (by kernel_rfl)).symm.trans h0_) (by decide)⟩
              refine steps_cons ?_ ?_
              · rintro b a w' ⟨g6_, c6_, g18_, c18_, m6_, m8_, m18_, m20_, ha, Q_FB, Q_FN6, Q_FN18, Q_X6_, Q_X8_, Q_X18_, Q_X20_⟩ hb_ hon hoff
                refine ⟨_, rfl, fun K hK => ?_⟩
                have e60 : a.tmps[60]? = some (.bool false) := by rw [ha]; exact putSel_on (e := (10, 60, .bool false)) 10 rfl rfl (hon 10 (by kernel_rfl)) rfl
                replace ha := Aside0.mk ha
                have FB := Aside0.mk Q_FB
                have FN6 := Aside0.mk (Q_FN6 (hon 6 (by kernel_rfl)))
                refine value_ (w1 := w') (v := .bool false) (by rfl) rfl ?_ ?_
                · go_simp
                  (try simp only [i64_w])
                  try rfl
                refine hK.out _ _ ⟨g6_, c6_, g18_, c18_, m6_, m8_, m18_, m20_, (by rw [ha.out]; exact putSel_upk 11 hb_ rfl rfl rfl), Q_FB, Q_FN6, fun h0_ => absurd ((hoff 18 (by kernel_rfl)).symm.trans h0_) (by decide), Q_X6_, Q_X8_, fun h0_ => absurd ((hoff 18 (by kernel_rfl)).symm.trans h0_) (by decide), fun h0_ => absurd ((hoff 20 (by kernel_rfl)).symm.trans h0_) (by decide)⟩
              refine steps_cons ?_ ?_
              · rintro b a w' ⟨g6_, c6_, g18_, c18_, m6_, m8_, m18_, m20_, ha, Q_FB, Q_FN6, Q_FN18, Q_X6_, Q_X8_, Q_X18_, Q_X20_⟩ hb_ hon hoff
                refine ⟨_, rfl, fun K hK => ?_⟩
                have e4 : a.tmps[4]? = some (.slice (some ⟨gw, 0, none⟩) 3 cw) := by rw [ha]; exact (putSel_off rfl).trans rfl
                have e61 : a.tmps[61]? = some (.bool false) := by rw [ha]; exact putSel_on (e := (11, 61, .bool false)) 11 rfl rfl (hon 11 (by kernel_rfl)) rfl
                replace ha := Aside0.mk ha
                have FB := Aside0.mk Q_FB
                have FN6 := Aside0.mk (Q_FN6 (hon 6 (by kernel_rfl)))
                refine value_ (w1 := w') (v := .slice (some ⟨gw, 0, none⟩) 3 cw) (wanted_on rfl rfl rfl (e61.trans (by first | rfl | (simp [*]; done)))) rfl ?_ ?_
                · go_simp
                  (try simp only [i64_w])
                  try rfl
                refine hK.out _ _ ⟨g6_, c6_, g18_, c18_, m6_, m8_, m18_, m20_, (by rw [ha.out]; exact putSel_upk 12 hb_ rfl rfl rfl), Q_FB, Q_FN6, Q_FN18, Q_X6_, Q_X8_, Q_X18_, Q_X20_⟩
              refine steps_cons ?_ ?_
              · rintro b a w' ⟨g6_, c6_, g18_, c18_, m6_, m8_, m18_, m20_, ha, Q_FB, Q_FN6, Q_FN18, Q_X6_, Q_X8_, Q_X18_, Q_X20_⟩ hb_ hon hoff
                refine ⟨_, rfl, fun K hK => ?_⟩
                have e7 : a.tmps[7]? = some (.int .i64 s) := by rw [ha]; exact (putSel_off rfl).trans rfl
                have e61 : a.tmps[61]? = some (.bool false) := by rw [ha]; exact putSel_on (e := (11, 61, .bool false)) 11 rfl rfl (hon 11 (by kernel_rfl)) rfl
                replace ha := Aside0.mk ha
                have FB := Aside0.mk Q_FB
                have FN6 := Aside0.mk (Q_FN6 (hon 6 (by kernel_rfl)))
                refine value_ (w1 := w') (v := .int .i64 s) (wanted_on rfl rfl rfl (e61.trans (by first | rfl | (simp [*]; done)))) rfl ?_ ?_
                · go_simp
                  (try simp only [i64_w])
                  try rfl
                refine hK.out _ _ ⟨g6_, c6_, g18_, c18_, m6_, m8_, m18_, m20_, (by rw [ha.out]; exact putSel_upk 13 hb_ rfl rfl rfl), Q_FB, Q_FN6, Q_FN18, Q_X6_, Q_X8_, Q_X18_, Q_X20_⟩
              refine steps_cons ?_ ?_
              · rintro b a w' ⟨g6_, c6_, g18_, c18_, m6_, m8_, m18_, m20_, ha, Q_FB, Q_FN6, Q_FN18, Q_X6_, Q_X8_, Q_X18_, Q_X20_⟩ hb_ hon hoff
                refine ⟨_, rfl, fun K hK => ?_⟩
                have e63 : a.tmps[63]? = some (.int .i64 s) := by rw [ha]; exact putSel_on (e := (13, 63, .int .i64 s)) 13 rfl rfl (hon 13 (by kernel_rfl)) rfl
                have e61 : a.tmps[61]? = some (.bool false) := by rw [ha]; exact putSel_on (e := (11, 61, .bool false)) 11 rfl rfl (hon 11 (by kernel_rfl)) rfl
                replace ha := Aside0.mk ha
                have FB := Aside0.mk Q_FB
                have FN6 := Aside0.mk (Q_FN6 (hon 6 (by kernel_rfl)))
                refine value_ (w1 := w') (v := .int .i64 (s + 2)) (wanted_on rfl rfl rfl (e61.trans (by first | rfl | (simp [*]; done)))) rfl ?_ ?_
                · go_simp
                  (try simp only [i64_w])
                  try rfl
                refine hK.out _ _ ⟨g6_, c6_, g18_, c18_, m6_, m8_, m18_, m20_, (by rw [ha.out]; exact putSel_upk 14 hb_ rfl rfl rfl), Q_FB, Q_FN6, Q_FN18, Q_X6_, Q_X8_, Q_X18_, Q_X20_⟩
              refine steps_cons ?_ ?_
              · rintro b a w' ⟨g6_, c6_, g18_, c18_, m6_, m8_, m18_, m20_, ha, Q_FB, Q_FN6, Q_FN18, Q_X6_, Q_X8_, Q_X18_, Q_X20_⟩ hb_ hon hoff
                refine ⟨_, rfl, fun K hK => ?_⟩
                have e64 : a.tmps[64]? = some (.int .i64 (s + 2)) := by rw [ha]; exact putSel_on (e := (14, 64, .int .i64 (s + 2))) 14 rfl rfl (hon 14 (by kernel_rfl)) rfl
                have e61 : a.tmps[61]? = some (.bool false) := by rw [ha]; exact putSel_on (e := (11, 61, .bool false)) 11 rfl rfl (hon 11 (by kernel_rfl)) rfl
                replace ha := Aside0.mk ha
                have FB := Aside0.mk Q_FB
                have FN6 := Aside0.mk (Q_FN6 (hon 6 (by kernel_rfl)))
                refine value_ (w1 := w') (v := .int .i64 q) (wanted_on rfl rfl rfl (e61.trans (by first | rfl | (simp [*]; done)))) rfl ?_ ?_
                · go_simp
                  (try simp only [i64_w])
                  try rfl
                refine hK.out _ _ ⟨g6_, c6_, g18_, c18_, m6_, m8_, m18_, m20_, (by rw [ha.out]; exact putSel_upk 15 hb_ rfl rfl rfl), Q_FB, Q_FN6, Q_FN18, Q_X6_, Q_X8_, Q_X18_, Q_X20_⟩
              refine steps_cons ?_ ?_
              · rintro b a w' ⟨g6_, c6_, g18_, c18_, m6_, m8_, m18_, m20_, ha, Q_FB, Q_FN6, Q_FN18, Q_X6_, Q_X8_, Q_X18_, Q_X20_⟩ hb_ hon hoff
                refine ⟨_, rfl, fun K hK => ?_⟩
                have e62 : a.tmps[62]? = some (.slice (some ⟨gw, 0, none⟩) 3 cw) := by rw [ha]; exact putSel_on (e := (12, 62, .slice (some ⟨gw, 0, none⟩) 3 cw)) 12 rfl rfl (hon 12 (by kernel_rfl)) rfl
                have e65 : a.tmps[65]? = some (.int .i64 q) := by rw [ha]; exact putSel_on (e := (15, 65, .int .i64 q)) 15 rfl rfl (hon 15 (by kernel_rfl)) rfl
                have e61 : a.tmps[61]? = some (.bool false) := by rw [ha]; exact putSel_on (e := (11, 61, .bool false)) 11 rfl rfl (hon 11 (by kernel_rfl)) rfl
                replace ha := Aside0.mk ha
                have FB := Aside0.mk Q_FB
                have FN6 := Aside0.mk (Q_FN6 (hon 6 (by kernel_rfl)))
                refine value_ (w1 := w') (v := .pointer (some ⟨gw, q, none⟩)) (wanted_on rfl rfl rfl (e61.trans (by first | rfl | (simp [*]; done)))) rfl ?_ ?_
                · go_simp
                  (try simp only [i64_w])
                  try rfl
                refine hK.out _ _ ⟨g6_, c6_, g18_, c18_, m6_, m8_, m18_, m20_, (by rw [ha.out]; exact putSel_upk 16 hb_ rfl rfl rfl), Q_FB, Q_FN6, Q_FN18, Q_X6_, Q_X8_, Q_X18_, Q_X20_⟩
              refine steps_cons ?_ ?_
              · rintro b a w' ⟨g6_, c6_, g18_, c18_, m6_, m8_, m18_, m20_, ha, Q_FB, Q_FN6, Q_FN18, Q_X6_, Q_X8_, Q_X18_, Q_X20_⟩ hb_ hon hoff
                refine ⟨_, rfl, fun K hK => ?_⟩
                have e66 : a.tmps[66]? = some (.pointer (some ⟨gw, q, none⟩)) := by rw [ha]; exact putSel_on (e := (16, 66, .pointer (some ⟨gw, q, none⟩))) 16 rfl rfl (hon 16 (by kernel_rfl)) rfl
                have e61 : a.tmps[61]? = some (.bool false) := by rw [ha]; exact putSel_on (e := (11, 61, .bool false)) 11 rfl rfl (hon 11 (by kernel_rfl)) rfl
                replace ha := Aside0.mk ha
                have FB := Aside0.mk Q_FB
                have FN6 := Aside0.mk (Q_FN6 (hon 6 (by kernel_rfl)))
                have hs_ : w'.cell? ⟨gw, q, none⟩ = some (.string Y) := (FB.out.cell (p := ⟨gw, q, none⟩) hgwi).trans z2
                refine value_ (w1 := w') (v := .string Y) (wanted_on rfl rfl rfl (e61.trans (by first | rfl | (simp [*]; done)))) rfl ?_ ?_
                · go_simp
                  (try simp only [i64_w])
                  try rfl
                refine hK.out _ _ ⟨g6_, c6_, g18_, c18_, m6_, m8_, m18_, m20_, (by rw [ha.out]; exact putSel_upk 17 hb_ rfl rfl rfl), Q_FB, Q_FN6, Q_FN18, Q_X6_, Q_X8_, Q_X18_, Q_X20_⟩
              refine steps_cons ?_ ?_
              · rintro b a w' ⟨g6_, c6_, g18_, c18_, m6_, m8_, m18_, m20_, ha, Q_FB, Q_FN6, Q_FN18, Q_X6_, Q_X8_, Q_X18_, Q_X20_⟩ hb_ hon hoff
                refine ⟨_, rfl, fun K hK => ?_⟩
                have e61 : a.tmps[61]? = some (.bool false) := by rw [ha]; exact putSel_on (e := (11, 61, .bool false)) 11 rfl rfl (hon 11 (by kernel_rfl)) rfl
                replace ha := Aside0.mk ha
                have FB := Aside0.mk Q_FB
                have FN6 := Aside0.mk (Q_FN6 (hon 6 (by kernel_rfl)))
                refine goes_ Try.func13 (by kernel_rfl) rfl #[] (wanted_on rfl rfl rfl (e61.trans (by first | rfl | (simp [*]; done)))) rfl rfl (by first | rfl | simp) ?_
                refine (HNM.out _).mono ?_
                rintro e w2_ ⟨v, rfl, hvN, hbN⟩
                refine ⟨_, rfl, ?_⟩
                obtain ⟨g', cn', rfl, _⟩ := Kd.R_form hvN (by decide)
                obtain ⟨ad', e', cN⟩ := C_str_at (Kd.R_reads' hvN).2.2 m (by rw [hl8]; exact hm8)
                cases e'
                rw [add_plain, hZ] at cN
                rw [show names8.length = 8 from rfl]
                refine hK.out _ _ ⟨g6_, c6_, g', cn', m6_, m8_, (.slice (some ⟨g', 0, none⟩) 8 cn'), m20_, (by rw [ha.out]; exact putSel_upk 18 hb_ rfl rfl rfl), FB.out.trans (hbN.mono FB.out.size), fun _ => (hbN.cell (p := ⟨g6_, m, none⟩) (World.block_lt_of_cell? _ _ FN6.out)).trans FN6.out, fun _ => cN, Q_X6_, Q_X8_, fun _ => rfl, fun h0_ => absurd ((hoff 20 (by kernel_rfl)).symm.trans h0_) (by decide)⟩
              refine steps_cons ?_ ?_
              · rintro b a w' ⟨g6_, c6_, g18_, c18_, m6_, m8_, m18_, m20_, ha, Q_FB, Q_FN6, Q_FN18, Q_X6_, Q_X8_, Q_X18_, Q_X20_⟩ hb_ hon hoff
                refine ⟨_, rfl, fun K hK => ?_⟩
                have e8 : a.tmps[8]? = some (.int .i64 m) := by rw [ha]; exact (putSel_off rfl).trans rfl
                have e61 : a.tmps[61]? = some (.bool false) := by rw [ha]; exact putSel_on (e := (11, 61, .bool false)) 11 rfl rfl (hon 11 (by kernel_rfl)) rfl
                replace ha := Aside0.mk ha
                have FB := Aside0.mk Q_FB
                have FN6 := Aside0.mk (Q_FN6 (hon 6 (by kernel_rfl)))
                refine value_ (w1 := w') (v := .int .i64 m) (wanted_on rfl rfl rfl (e61.trans (by first | rfl | (simp [*]; done)))) rfl ?_ ?_
                · go_simp
                  (try simp only [i64_w])
                  try rfl
                refine hK.out _ _ ⟨g6_, c6_, g18_, c18_, m6_, m8_, m18_, m20_, (by rw [ha.out]; exact putSel_upk 19 hb_ rfl rfl rfl), Q_FB, Q_FN6, Q_FN18, Q_X6_, Q_X8_, Q_X18_, fun h0_ => absurd ((hoff 20 (by kernel_rfl)).symm.trans h0_) (by decide)⟩
              refine steps_cons ?_ ?_
              · rintro b a w' ⟨g6_, c6_, g18_, c18_, m6_, m8_, m18_, m20_, ha, Q_FB, Q_FN6, Q_FN18, Q_X6_, Q_X8_, Q_X18_, Q_X20_⟩ hb_ hon hoff
                refine ⟨_, rfl, fun K hK => ?_⟩
                have e68 : a.tmps[68]? = some (m18_) := by rw [ha]; exact putSel_on (e := (18, 68, m18_)) 18 rfl rfl (hon 18 (by kernel_rfl)) rfl
                rw [Q_X18_ (hon 18 (by kernel_rfl))] at e68
                have e69 : a.tmps[69]? = some (.int .i64 m) := by rw [ha]; exact putSel_on (e := (19, 69, .int .i64 m)) 19 rfl rfl (hon 19 (by kernel_rfl)) rfl
                have e61 : a.tmps[61]? = some (.bool false) := by rw [ha]; exact putSel_on (e := (11, 61, .bool false)) 11 rfl rfl (hon 11 (by kernel_rfl)) rfl
                replace ha := Aside0.mk ha
                have FB := Aside0.mk Q_FB
                have FN6 := Aside0.mk (Q_FN6 (hon 6 (by kernel_rfl)))
                have FN18 := Aside0.mk (Q_FN18 (hon 18 (by kernel_rfl)))
                refine value_ (w1 := w') (v := .pointer (some ⟨g18_, m, none⟩)) (wanted_on rfl rfl rfl (e61.trans (by first | rfl | (simp [*]; done)))) rfl ?_ ?_
                · go_simp
                  (try simp only [i64_w])
                  try rfl
                refine hK.out _ _ ⟨g6_, c6_, g18_, c18_, m6_, m8_, m18_, (.pointer (some ⟨g18_, m, none⟩)), (by rw [ha.out]; exact putSel_upk 20 hb_ rfl rfl rfl), Q_FB, Q_FN6, Q_FN18, Q_X6_, Q_X8_, Q_X18_, fun _ => rfl⟩
              refine steps_cons ?_ ?_
              · rintro b a w' ⟨g6_, c6_, g18_, c18_, m6_, m8_, m18_, m20_, ha, Q_FB, Q_FN6, Q_FN18, Q_X6_, Q_X8_, Q_X18_, Q_X20_⟩ hb_ hon hoff
                refine ⟨_, rfl, fun K hK => ?_⟩
                have e70 : a.tmps[70]? = some (m20_) := by rw [ha]; exact putSel_on (e := (20, 70, m20_)) 20 rfl rfl (hon 20 (by kernel_rfl)) rfl
                rw [Q_X20_ (hon 20 (by kernel_rfl))] at e70
                have e61 : a.tmps[61]? = some (.bool false) := by rw [ha]; exact putSel_on (e := (11, 61, .bool false)) 11 rfl rfl (hon 11 (by kernel_rfl)) rfl
                replace ha := Aside0.mk ha
                have FB := Aside0.mk Q_FB
                have FN6 := Aside0.mk (Q_FN6 (hon 6 (by kernel_rfl)))
                have FN18 := Aside0.mk (Q_FN18 (hon 18 (by kernel_rfl)))
                have hs_ := FN18.out
                refine value_ (w1 := w') (v := .string Z) (wanted_on rfl rfl rfl (e61.trans (by first | rfl | (simp [*]; done)))) rfl ?_ ?_
                · go_simp
                  (try simp only [i64_w])
                  try rfl
                refine hK.out _ _ ⟨g6_, c6_, g18_, c18_, m6_, m8_, m18_, m20_, (by rw [ha.out]; exact putSel_upk 21 hb_ rfl rfl rfl), Q_FB, Q_FN6, Q_FN18, Q_X6_, Q_X8_, Q_X18_, Q_X20_⟩
              refine steps_cons ?_ ?_
              · rintro b a w' ⟨g6_, c6_, g18_, c18_, m6_, m8_, m18_, m20_, ha, Q_FB, Q_FN6, Q_FN18, Q_X6_, Q_X8_, Q_X18_, Q_X20_⟩ hb_ hon hoff
                refine ⟨_, rfl, fun K hK => ?_⟩
                have e67 : a.tmps[67]? = some (.string Y) := by rw [ha]; exact putSel_on (e := (17, 67, .string Y)) 17 rfl rfl (hon 17 (by kernel_rfl)) rfl
                have e71 : a.tmps[71]? = some (.string Z) := by rw [ha]; exact putSel_on (e := (21, 71, .string Z)) 21 rfl rfl (hon 21 (by kernel_rfl)) rfl
                have e61 : a.tmps[61]? = some (.bool false) := by rw [ha]; exact putSel_on (e := (11, 61, .bool false)) 11 rfl rfl (hon 11 (by kernel_rfl)) rfl
                replace ha := Aside0.mk ha
                have FB := Aside0.mk Q_FB
                have FN6 := Aside0.mk (Q_FN6 (hon 6 (by kernel_rfl)))
                have FN18 := Aside0.mk (Q_FN18 (hon 18 (by kernel_rfl)))
                refine value_ (w1 := w') (v := .bool b2) (wanted_on rfl rfl rfl (e61.trans (by first | rfl | (simp [*]; done)))) rfl ?_ ?_
                · go_simp
                  (try simp only [i64_w])
                  try rfl
                refine hK.out _ _ ⟨g6_, c6_, g18_, c18_, m6_, m8_, m18_, m20_, (by rw [ha.out]; exact putSel_upk 22 hb_ rfl rfl rfl), Q_FB, Q_FN6, Q_FN18, Q_X6_, Q_X8_, Q_X18_, Q_X20_⟩
              refine steps_cons ?_ ?_
              · rintro b a w' ⟨g6_, c6_, g18_, c18_, m6_, m8_, m18_, m20_, ha, Q_FB, Q_FN6, Q_FN18, Q_X6_, Q_X8_, Q_X18_, Q_X20_⟩ hb_ hon hoff
                refine ⟨_, rfl, fun K hK => ?_⟩
                have e61 : a.tmps[61]? = some (.bool false) := by rw [ha]; exact putSel_on (e := (11, 61, .bool false)) 11 rfl rfl (hon 11 (by kernel_rfl)) rfl
                have e72 : a.tmps[72]? = some (.bool b2) := by rw [ha]; exact putSel_on (e := (22, 72, .bool b2)) 22 rfl rfl (hon 22 (by kernel_rfl)) rfl
                replace ha := Aside0.mk ha
                have FB := Aside0.mk Q_FB
                have FN6 := Aside0.mk (Q_FN6 (hon 6 (by kernel_rfl)))
                have FN18 := Aside0.mk (Q_FN18 (hon 18 (by kernel_rfl)))
                refine value_ (w1 := w') (v := .bool b2) (by rfl) rfl ?_ ?_
                · go_simp
                  (try simp only [i64_w])
                  try rfl
                refine hK.out _ _ ⟨g6_, c6_, g18_, c18_, m6_, m8_, m18_, m20_, (by rw [ha.out]; exact putSel_upk 23 hb_ rfl rfl rfl), Q_FB, Q_FN6, Q_FN18, Q_X6_, Q_X8_, Q_X18_, Q_X20_⟩
              exact steps_nil
            · rintro b a w' hall ⟨g6_, c6_, g18_, c18_, m6_, m8_, m18_, m20_, ha, Q_FB, Q_FN6, Q_FN18, Q_X6_, Q_X8_, Q_X18_, Q_X20_⟩
              clear FB
              have hb0_ := hall 0 (by kernel_rfl)
              have hb1_ := hall 1 (by kernel_rfl)
              have hb2_ := hall 2 (by kernel_rfl)
              have hb3_ := hall 3 (by kernel_rfl)
              have hb4_ := hall 4 (by kernel_rfl)
              have hb5_ := hall 5 (by kernel_rfl)
              have hb6_ := hall 6 (by kernel_rfl)
              have hb7_ := hall 7 (by kernel_rfl)
              have hb8_ := hall 8 (by kernel_rfl)
              have hb9_ := hall 9 (by kernel_rfl)
              have hb10_ := hall 10 (by kernel_rfl)
              have hb11_ := hall 11 (by kernel_rfl)
              have hb12_ := hall 12 (by kernel_rfl)
              have hb13_ := hall 13 (by kernel_rfl)
              have hb14_ := hall 14 (by kernel_rfl)
              have hb15_ := hall 15 (by kernel_rfl)
              have hb16_ := hall 16 (by kernel_rfl)
              have hb17_ := hall 17 (by kernel_rfl)
              have hb18_ := hall 18 (by kernel_rfl)
              have hb19_ := hall 19 (by kernel_rfl)
              have hb20_ := hall 20 (by kernel_rfl)
              have hb21_ := hall 21 (by kernel_rfl)
              have hb22_ := hall 22 (by kernel_rfl)
              have hb23_ := hall 23 (by kernel_rfl)
              subst ha
              obtain rfl := Q_X6_ hb6_
              obtain rfl := Q_X8_ hb8_
              obtain rfl := Q_X18_ hb18_
              obtain rfl := Q_X20_ hb20_
              simp only [putSel, hb0_, hb1_, hb2_, hb3_, hb4_, hb5_, hb6_, hb7_, hb8_, hb9_, hb10_, hb11_, hb12_, hb13_, hb14_, hb15_, hb16_, hb17_, hb18_, hb19_, hb20_, hb21_, hb22_, hb23_, if_true, Act.put, List.setIfInBounds_toArray, List.set_cons_zero, List.set_cons_succ]
              have FB := Aside0.mk Q_FB
              clear Q_FB
              have FN6 := Aside0.mk (Q_FN6 hb6_)
              clear Q_FN6
              have FN18 := Aside0.mk (Q_FN18 hb18_)
              clear Q_FN18
              clear hall hb0_ hb1_ hb2_ hb3_ hb4_ hb5_ hb6_ hb7_ hb8_ hb9_ hb10_ hb11_ hb12_ hb13_ hb14_ hb15_ hb16_ hb17_ hb18_ hb19_ hb20_ hb21_ hb22_ hb23_
              go_wp2_with fail
              go_meet
              exact ⟨by rw [h1t, hb2]; simp, FB⟩
        case rest =>
          obtain ⟨rfl, HBx⟩ := hcut
          rename World => wx
          by_cases hbl : m = jp ∨ m = jq
          · have hbt : (decide (jp = m) || decide (jq = m)) = true := by rcases hbl with h | h <;> simp [h]
            rw [hbt]
            have htn : (((m : Int) + 1) % 8).toNat = (m + 1) % 8 := by omega
            have hdec := nFree_next jp jq m hjp hjq hm8 hbl
            go_wp2
            go_roundw
            case rel => exact ⟨(m + 1) % 8, by omega, congrArg (Value.int .i64) (by omega), ⟨HBi.out.trans (HBx.out.mono HBi.out.size)⟩⟩
            case measure => simpa [intOf, htn] using hdec
          · have hbt : (decide (jp = m) || decide (jq = m)) = false := by
              rw [decide_eq_false (fun e => hbl (.inl e.symm)), decide_eq_false (fun e => hbl (.inr e.symm))]; rfl
            rw [hbt]
            go_wp2_with fail
            have HBwx := Aside0.mk (below_step HB7.out (HBi.out.trans (HBx.out.mono HBi.out.size)))
            have HB7x := Aside0.mk (HBi.out.trans (HBx.out.mono HBi.out.size))
            refine (HNM.out _).mono ?_
            rintro e wy ⟨v, rfl, hvN, hbN⟩
            obtain ⟨g', cn', rfl, _⟩ := Kd.R_form hvN (by decide)
            obtain ⟨ad', e', cN⟩ := C_str_at (Kd.R_reads' hvN).2.2 m (by rw [hl8]; exact hm8)
            cases e'
            rw [add_plain] at cN
            replace cN : wy.cell? ⟨g', m, none⟩ = some (.string (nm8 m)) := cN
            have HB7y := Aside0.mk (HB7x.out.trans (hbN.mono HB7x.out.size))
            have HWy := Aside0.mk (Kd.R_below HW7.out HB7y.out)
            have HNy := Aside0.mk (Kd.R_below HN7.out HB7y.out)
            have BTy := Aside0.mk (blk_below BT7.out HB7y.out)
            have HVy := Aside0.mk (Kd.R_below HV7.out HB7y.out)
            have BRy := Aside0.mk (blk_below BR7.out HB7y.out)
            have HBy := Aside0.mk (below_step HB7.out HB7y.out)
            obtain ⟨cs1, cs2⟩ := Kd.R_celln ByteArray.empty HWy.out s hs0 (by omega)
            obtain ⟨a1, b1, c1, hset, hstep⟩ := HNX.out m (fun e => hbl (.inl e)) (fun e => hbl (.inr e))
            have HSTEP := Aside0.mk hstep
            have hput := Kd.R_putn HWy.out s (nm8 m)
            rw [← hset] at hput
            have hs3z : s < 3 := hs3
            clear hvN hbN hstep hset HW7 HN7 BT7 HV7 BR7 HB7 HBi HBx HBwx HB7x z1 z2 hxz hyz hcp hcq HNX
            have HPUT := Aside0.mk hput
            obtain ⟨cellsw, hclw⟩ := Kd.R_typed HWy.out gw (by simp [Value.ownBlock])
            have cz : (wy.setCell ⟨gw, s.toNat, none⟩ (.string (nm8 m))).cell? ⟨gw, s.toNat, none⟩ = some (.string (nm8 m)) := World.cell?_setCell_same' _ _ _ (by rw [cs1]; rfl)
            have BTz := Aside0.mk (blk_far BTy.out (p := ⟨gw, s.toNat, none⟩) htne (.string (nm8 m)))
            have BRz := Aside0.mk (blk_far BRy.out (p := ⟨gw, s.toNat, none⟩) hrne (.string (nm8 m)))
            have HNz := Aside0.mk (Kd.R_far HNy.out (p := ⟨gw, s.toNat, none⟩) (fun k hk => by subst hk; exact hgne) (.string (nm8 m)))
            have HVz := Aside0.mk (Kd.R_set HVy.out hclw (by decide) s.toNat (.string (nm8 m)))
            have HBz := Aside0.mk (below_set (g := gw) (j := s.toNat) (v := .string (nm8 m)) HBy.out (by omega))
            clear hput hclw
            go_wp2_with fail
            generalize wy.setCell ⟨gw, s.toNat, none⟩ (.string (nm8 m)) = wz at HPUT BTz BRz HNz HVz HBz cz ⊢
            clear cs1 cs2 cN HWy HNy BTy HVy BRy HBy HB7y
            have q1 : wz.cell? ⟨w1.heap.size, 1, none⟩ = some (.slice A5 chg.length j5) := (blk_cell BTz.out 1).trans rfl
            have q2 := blk_frozen BTz.out 1
            have hBTl := blk_lt BTz.out
            have hwz := HBz.out.size
            go_region_law (first
              | (refine Kd.R_append_step k32 (w0 := w) (W := wz.drew) w.heap.size (by rfl) (.tmp 85) (.tmp 93) 25 32 (.agg #[(.int .i64 0), (.int .i64 0), (.string ⟨#[]⟩)]) 32 rfl Try.underlying25 infoStreet rfl (by decide) (by decide) (.slice A5 chg.length j5) chg ⟨at_ + d, s, nm8 m⟩ [.int .i64 (at_ + d), .int .i64 s, .string (nm8 m)] (fun _ => True) (fun _ => False) rfl rfl (k32_mkM _ _ _ _) (fun _ hk_ => hk_.elim) (fun _ _ => trivial) (Kd.R_drew HVz.out) (below_drew HBz.out) hwz (by omega) ?_; intro v9 w9 ho hb hg _; obtain ⟨A9, j9, rfl⟩ := Kd.R_slice ho; have HR9 := Aside0.mk ho; have HB9 := Aside0.mk hb; have BT9 := Aside0.mk (blk_grown (blk_drew BTz.out) hg (Kd.R_ne (Kd.R_drew HVz.out) (blk_drew BTz.out) (by decide))); have BR9 := Aside0.mk (blk_grown (blk_drew BRz.out) hg (Kd.R_ne (Kd.R_drew HVz.out) (blk_drew BRz.out) (by decide))); have HN9 := Aside0.mk (Kd.R_over' (Kd.R_drew HNz.out) (Kd.R_typed (Kd.R_drew HVz.out)) (by decide) hg); have HW9 := Aside0.mk (Kd.R_over' (Kd.R_drew HPUT.out) (Kd.R_typed (Kd.R_drew HVz.out)) (by decide) hg); have r1 : w9.cell? ⟨w1.heap.size, 1, none⟩ = some (.slice A5 chg.length j5) := (blk_cell BT9.out 1).trans rfl; have r2 := blk_frozen BT9.out 1; clear ho hb hg))
            all_goals
              go_wp2
              go_roundw
              case rel =>
                have hl9 : (chg ++ [(⟨at_ + d, s, nm8 m⟩ : S32)]).length = chg.length + 1 := by simp
                refine ⟨chg ++ [⟨at_ + d, s, nm8 m⟩], at_ + d, a1, b1, c1, .slice A9 (chg.length + 1) j9, rfl, by rw [hl9]; go_num, by rw [hl9]; omega, by rw [hl9]; omega, ⟨HT7.out.next hgo2 d hd1 hd2 s m a1 b1 c1 hm8 HSTEP.out⟩, ⟨?_⟩, ⟨?_⟩, ⟨?_⟩, ⟨?_⟩, ⟨?_⟩, ⟨below_set HB9.out (by omega)⟩⟩
                · exact Kd.R_set HW9.out BT9.out (by decide) 1 _
                · exact Kd.R_set HN9.out BT9.out (by decide) 1 _
                · exact blk_put BT9.out 1 _ (by simp)
                · have h9 := HR9.out
                  rw [hl9] at h9
                  exact Kd.R_set h9 BT9.out (by decide) 1 _
                · exact blk_far BR9.out (p := ⟨w1.heap.size, 1, none⟩) hrt _
              case measure => simp [intOf]; omega
    · have q0 : wo.cell? ⟨w1.heap.size, 0, none⟩ = some (.slice (some ⟨gn, 0, none⟩) 3 c8) := (blk_cell BT.out 0).trans rfl
      have q1 : wo.cell? ⟨w1.heap.size, 1, none⟩ = some (.slice A5 chg.length j5) := (blk_cell BT.out 1).trans rfl
      have p0 : wo.cell? ⟨w.heap.size, 0, none⟩ = some (.slice none 0 0) := (blk_cell BR.out 0).trans rfl
      have p1 : wo.cell? ⟨w.heap.size, 1, none⟩ = some (.slice none 0 0) := (blk_cell BR.out 1).trans rfl
      have f0 := blk_frozen BR.out 0
      have f1 := blk_frozen BR.out 1
      have BE := Aside0.mk (blk_put (blk_put BR.out 0 (.slice (some ⟨gn, 0, none⟩) 3 c8) rfl) 1 (.slice A5 chg.length j5) rfl)
      have BE0 := blk_put BR.out 0 (.slice (some ⟨gn, 0, none⟩) 3 c8) rfl
      have HNe := Aside0.mk (Kd.R_set (Kd.R_set HN.out BR.out (by decide) 0 (.slice (some ⟨gn, 0, none⟩) 3 c8)) BE0 (by decide) 1 (.slice A5 chg.length j5))
      have HVe := Aside0.mk (Kd.R_set (Kd.R_set HV.out BR.out (by decide) 0 (.slice (some ⟨gn, 0, none⟩) 3 c8)) BE0 (by decide) 1 (.slice A5 chg.length j5))
      have HBe := Aside0.mk (below_set (g := w.heap.size) (j := 1) (v := .slice A5 chg.length j5) (below_set (g := w.heap.size) (j := 0) (v := .slice (some ⟨gn, 0, none⟩) 3 c8) HB.out (Nat.le_refl _)) (Nat.le_refl _))
      have hfin : ∃ (chg_ : List S32) (v1 v2 : Value), Ending.returned (.agg #[.slice (some ⟨gn, 0, none⟩) 3 c8, .slice A5 chg.length j5]) = .returned (.agg #[v1, v2]) ∧ (∀ x ∈ chg_, ∃ n : Nat, n < 8 ∧ x.f2 = nm8 n) ∧ GoodTown first3 chg_ ∧ chg_.length ≤ 7 ∧ Kd.string.R 9 ((wo.setCell ⟨w.heap.size, 0, none⟩ (.slice (some ⟨gn, 0, none⟩) 3 c8)).setCell ⟨w.heap.size, 1, none⟩ (.slice A5 chg.length j5)) w.heap.size (fun _ => True) v1 first3 ∧ k32.R 32 ((wo.setCell ⟨w.heap.size, 0, none⟩ (.slice (some ⟨gn, 0, none⟩) 3 c8)).setCell ⟨w.heap.size, 1, none⟩ (.slice A5 chg.length j5)) w.heap.size (fun _ => True) v2 chg_ ∧ Below w.heap.size w ((wo.setCell ⟨w.heap.size, 0, none⟩ (.slice (some ⟨gn, 0, none⟩) 3 c8)).setCell ⟨w.heap.size, 1, none⟩ (.slice A5 chg.length j5)) :=
        ⟨chg, _, _, rfl, HT.out.n8, HT.out.good (by omega), hl7, Kd.R_mono (Kd.R_take HNe.out (m := 3) (by decide)) (fun _ _ => trivial), HVe.out, HBe.out⟩
      have HFIN := Aside0.mk hfin
      clear hfin BE0 HNe HVe HBe HN HV HB BT BR HT HW
      by_cases hx : chg.length < xs.length
      · have hx1 : (chg.length : Int) < (xs.length : Int) := by omega
        have hx2 : ¬ (chg.length : Int) < 7 := by omega
        go_wp2
        refine bodyPost_ret (results_cell_row rfl _ _ w.heap.size _ _ (0, 0) _ rfl BE.out Try.underlying27 rfl (by kernel_rfl)) rfl ?_
        exact HFIN.out
      · have hx1 : ¬ (chg.length : Int) < (xs.length : Int) := by omega
        go_wp2
        refine bodyPost_ret (results_cell_row rfl _ _ w.heap.size _ _ (0, 0) _ rfl BE.out Try.underlying27 rfl (by kernel_rfl)) rfl ?_
        exact HFIN.out
theorem townMade_ok (A : Option Addr) (c : Nat) (xs : List (Int × Int × Int)) (hb : ∀ x ∈ xs, OkByte x.1 ∧ OkByte x.2.1 ∧ OkByte x.2.2) (hl : xs.length ≤ 9223372036854775807) (w : World) (hC : k3.C w A xs.length xs) :
    Calls Try.prog 4 #[.slice A xs.length c] w fun e w' => ∃ (chg : List S32) (v1 v2 : Value), e = .returned (.agg #[v1, v2]) ∧ GoodTown first3 chg ∧ chg.length ≤ 7 ∧ Kd.string.R 9 w' w.heap.size (fun _ => True) v1 first3 ∧ k32.R 32 w' w.heap.size (fun _ => True) v2 chg ∧ Below w.heap.size w w' := by
  refine (townMade8_ok A c xs hb hl w hC).mono ?_
  rintro e w' ⟨chg, v1, v2, rfl, _, h⟩
  exact ⟨chg, v1, v2, rfl, h⟩
end Go.Proofs.Ytfbndhhogpacmaa
