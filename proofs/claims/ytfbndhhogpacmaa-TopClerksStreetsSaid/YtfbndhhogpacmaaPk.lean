import Derived.Shelf.Sort.Plain
import Derived.Shelf.Slices.CompactI
import Derived.Test.YtfbndhhogpacmaaProg
import Derived.Test.YtfbndhhogpacmaaPe
import Derived.Test.YtfbndhhogpacmaaPg
import Derived.Sort.OwnSortedInts
/-! slices.Sort and slices.Compact at []int: the shelf's contracts at this dump, in plain words (written by the kit's lay-shelf and lay-plain). -/
namespace Go.Proofs
open Go.Shelf
def Try.lays189_ren : Go.Shelf.Ren := ⟨fun | 189 => 40 | 125 => 55 | 257 => 54 | 128 => 72 | 129 => 73 | 294 => 63 | 295 => 64 | 296 => 65 | 297 => 66 | 298 => 67 | 299 => 68 | 216 => 69 | 300 => 70 | 301 => 71 | 328 => 84 | 329 => 85 | 330 => 86 | 331 => 87 | 332 => 88 | 215 => 53 | 343 => 94 | n => n, fun | 28 => 34 | 3 => 3 | 46 => 33 | 0 => 0 | 51 => 142 | 53 => 144 | 4 => 4 | 183 => 135 | 182 => 134 | 131 => 111 | 5 => 5 | 9 => 9 | 218 => 156 | 222 => 160 | 228 => 165 | 229 => 166 | n => n, fun | n => n⟩
theorem Try.lays189 : Go.Proofs.Lays.n189 Try.prog Try.lays189_ren := {
  mixed := by kernel_rfl
  f125 := Try.func55.trans (congrArg some (by kernel_rfl))
  f128 := Try.func72.trans (congrArg some (by kernel_rfl))
  f129 := Try.func73.trans (congrArg some (by kernel_rfl))
  f189 := Try.func40.trans (congrArg some (by kernel_rfl))
  f215 := Try.func53.trans (congrArg some (by kernel_rfl))
  f216 := Try.func69.trans (congrArg some (by kernel_rfl))
  f257 := Try.func54.trans (congrArg some (by kernel_rfl))
  f294 := Try.func63.trans (congrArg some (by kernel_rfl))
  f295 := Try.func64.trans (congrArg some (by kernel_rfl))
  f296 := Try.func65.trans (congrArg some (by kernel_rfl))
  f297 := Try.func66.trans (congrArg some (by kernel_rfl))
  f298 := Try.func67.trans (congrArg some (by kernel_rfl))
  f299 := Try.func68.trans (congrArg some (by kernel_rfl))
  f300 := Try.func70.trans (congrArg some (by kernel_rfl))
  f301 := Try.func71.trans (congrArg some (by kernel_rfl))
  f328 := Try.func84.trans (congrArg some (by kernel_rfl))
  f329 := Try.func85.trans (congrArg some (by kernel_rfl))
  f330 := Try.func86.trans (congrArg some (by kernel_rfl))
  f331 := Try.func87.trans (congrArg some (by kernel_rfl))
  f332 := Try.func88.trans (congrArg some (by kernel_rfl))
  f343 := Try.func94.trans (congrArg some (by kernel_rfl))
  t0 := Try.underlying0
  a0 := Try.isAgg0
  z0 := Try.sizeOf0
  v0 := Try.zeroValue0
  t3 := Try.underlying3
  a3 := Try.isAgg3
  z3 := Try.sizeOf3
  v3 := Try.zeroValue3
  t4 := Try.underlying4
  a4 := Try.isAgg4
  z4 := Try.sizeOf4
  v4 := Try.zeroValue4
  t5 := Try.underlying5
  a5 := Try.isAgg5
  z5 := Try.sizeOf5
  v5 := Try.zeroValue5
  t9 := Try.underlying9
  a9 := Try.isAgg9
  z9 := Try.sizeOf9
  v9 := Try.zeroValue9
  t28 := Try.underlying34
  a28 := Try.isAgg34
  z28 := Try.sizeOf34
  v28 := Try.zeroValue34
  t46 := Try.underlying33
  a46 := Try.isAgg33
  z46 := Try.sizeOf33
  v46 := Try.zeroValue33
  t51 := Try.underlying142
  a51 := Try.isAgg142
  z51 := Try.sizeOf142
  v51 := Try.zeroValue142
  t53 := Try.underlying144
  a53 := Try.isAgg144
  z53 := Try.sizeOf144
  v53 := Try.zeroValue144
  t131 := Try.underlying111
  a131 := Try.isAgg111
  z131 := Try.sizeOf111
  v131 := Try.zeroValue111
  t182 := Try.underlying134
  a182 := Try.isAgg134
  z182 := Try.sizeOf134
  v182 := Try.zeroValue134
  t183 := Try.underlying135
  a183 := Try.isAgg135
  z183 := Try.sizeOf135
  v183 := Try.zeroValue135
  t218 := Try.underlying156
  a218 := Try.isAgg156
  z218 := Try.sizeOf156
  v218 := Try.zeroValue156
  t222 := Try.underlying160
  a222 := Try.isAgg160
  z222 := Try.sizeOf160
  v222 := Try.zeroValue160
  t228 := Try.underlying165
  a228 := Try.isAgg165
  z228 := Try.sizeOf165
  v228 := Try.zeroValue165
  t229 := Try.underlying166
  a229 := Try.isAgg166
  z229 := Try.sizeOf166
  v229 := Try.zeroValue166 }
open Go.Sort Go.RowKit in
theorem Try.slices_Sort_int (blk off cap : Nat) (zs : List Int) (w : World) (hH : Holds (Value.int .i64) w blk off zs.toArray) (hblk : blk < w.heap.size) (hsz : zs.length < 4611686018427387904) :
    Calls Try.prog 40 #[.slice (some ⟨blk, off, none⟩) zs.length cap] w fun e w' =>
      e = .returned (.tuple #[]) ∧ ∃ n os, w' = grow (putRow (Value.int .i64) (Sort.ahead w n) blk off (zs.mergeSort fun x y => decide (x ≤ y)).toArray) os := Any.slices_Sort_int Try.lays189 blk off cap zs w hH hblk hsz
def Try.laysNm220_ren : Go.Shelf.Ren := ⟨fun | 20 => 41 | n => n, fun | 22 => 34 | 3 => 3 | 4 => 4 | 0 => 0 | n => n, fun | n => n⟩
theorem Try.laysNm220 : Go.Proofs.Lays2.n20 Try.prog Try.laysNm220_ren := {
  mixed := by kernel_rfl
  f20 := Try.func41.trans (congrArg some (by kernel_rfl))
  t0 := Try.underlying0
  a0 := Try.isAgg0
  z0 := Try.sizeOf0
  v0 := Try.zeroValue0
  t3 := Try.underlying3
  a3 := Try.isAgg3
  z3 := Try.sizeOf3
  v3 := Try.zeroValue3
  t4 := Try.underlying4
  a4 := Try.isAgg4
  z4 := Try.sizeOf4
  v4 := Try.zeroValue4
  t22 := Try.underlying34
  a22 := Try.isAgg34
  z22 := Try.sizeOf34
  v22 := Try.zeroValue34
  i3 := by kernel_rfl }
open Go.RowKit Go.Lib Go.Sort in
/-- slices.Compact at []int, over an array: the library's two loops are walked. (LAID: no walk: one application.) -/
theorem Try.slices_Compact_int_arr (blk off cap : Nat) (d : Array Int) (w : World) (hH : Holds encI w blk off d) (hsz : d.size ≤ 9223372036854775807) (hcap : d.size ≤ cap) :
    Calls Try.prog 41 #[.slice (some ⟨blk, off, none⟩) d.size cap] w fun e w' => e = .returned (.slice (some ⟨blk, off, none⟩) (compactUpTo d d.size).length cap) ∧ ∃ q, w' = putRow encI (Sort.ahead w q) blk off (compactUpTo d d.size ++ List.replicate (d.size - (compactUpTo d d.size).length) 0).toArray := Any.slices_Compact_int_arr Try.laysNm220 blk off cap d w hH hsz hcap
open Go.RowKit Go.Lib Go.Sort in
/-- slices.Compact at []int: "Compact replaces consecutive runs of equal elements with a single copy. This is like the uniq command found on Unix. Compact modifies the contents of the slice s and returns the modified slice, which may have a smaller length. Compact zeroes the elements between the new length and the original length. The result preserves the nilness of s.": IT RETURNS THE SLICE CUT TO 'Lib.compact zs'; ITS CELLS HOLD 'Lib.compact zs', THEN ZERO VALUES up to the old length; all else is as it was, but for the count of draws. IN THE WORDS OF slices.Sort's CONTRACT ('Holds', 'putRow'): so the everyday 'slices.Sort(xs); xs = slices.Compact(xs)' goes from the one contract to the other. It asks 'zs.length ≤ cap' (every slice's: the reslicing 's[:k]' looks at it). Length 0, nil: '.._empty'. (LAID: no walk: one application.) -/
theorem Try.slices_Compact_int (blk off cap : Nat) (zs : List Int) (w : World) (hH : Holds (Value.int .i64) w blk off zs.toArray) (hsz : zs.length ≤ 9223372036854775807) (hcap : zs.length ≤ cap) :
    Calls Try.prog 41 #[.slice (some ⟨blk, off, none⟩) zs.length cap] w fun e w' => e = .returned (.slice (some ⟨blk, off, none⟩) (Lib.compact zs).length cap) ∧ ∃ q, w' = putRow (Value.int .i64) (Sort.ahead w q) blk off (Lib.compact zs ++ List.replicate (zs.length - (Lib.compact zs).length) 0).toArray := Any.slices_Compact_int Try.laysNm220 blk off cap zs w hH hsz hcap
end Go.Proofs
/-! slices.Index at []string; street.Who. -/
namespace Go.Proofs.Ytfbndhhogpacmaa
open Go.RowKit Go.Shelf
open Go.Proofs.YtfbndhhogpacmaaW.PrintWords Go.Proofs.Ytfbndhhogpacmaa.T
set_option linter.unusedVariables false
set_option linter.unusedSimpArgs false
set_option maxRecDepth 100000 in
set_option maxHeartbeats 2000000 in
theorem Index_str (A : Option Addr) (c : Nat) (l : List ByteArray) (v : ByteArray) (i : Nat) (hi : i < l.length) (he : l[i] = v) (hne : ∀ (j : Nat) (h : j < l.length), j < i → ¬ l[j] = v) (hl : l.length ≤ 1000) (w : World) (hC : Kd.string.C w A l.length l) :
    Calls Try.prog 25 #[.slice A l.length c, .string v] w fun e w' => e = .returned (.int .i64 i) ∧ Below w.heap.size w w' := by
  have HC := Aside0.mk hC
  have HNE := Aside0.mk hne
  have HE := Aside0.mk he
  clear hC hne he
  go_enter Try.func25, Try.ntmps25
  go_wp2_with fail
  go_loopw [5, 8] (fun _ s8 wr => ∃ k : Nat, k ≤ i ∧ s8 = .int .i64 k ∧ wr = w) (fun _ s8 _ => l.length - (intOf s8).toNat)
  case atStart => exact ⟨0, Nat.zero_le _, rfl, rfl⟩
  case round =>
    obtain ⟨k, hk, rfl, hwr⟩ := hrel
    rw [hwr]
    clear hwr
    have hkl : k < l.length := by omega
    have hltz : (k : Int) < (l.length : Int) := by omega
    have hk0 : (0 : Int) ≤ (k : Int) := by omega
    obtain ⟨ad, eA, hx⟩ := C_str_at HC.out k hkl
    subst eA
    rw [getD_at _ _ _ hkl] at hx
    by_cases hki : k = i
    · subst hki
      rw [HE.out] at hx
      go_wp2
      go_ret
      exact ⟨rfl, Below.refl _ _⟩
    · have hkn := HNE.out k hkl (by omega)
      have hsd := strNe (fun e => hkn e.symm)
      generalize l[k] = u at hx hsd
      clear hkn
      go_wp2
      go_roundw
      case rel => exact ⟨k + 1, by omega, by go_num, by trivial⟩
      case measure => simp [intOf]; omega
set_option maxRecDepth 100000 in
set_option maxHeartbeats 2000000 in
theorem Who_ok (A1 A2 : Option Addr) (k1 k2 : Nat) (first : List ByteArray) (chg : List S32) (good : GoodTown first chg) (s h : Int) (hs0 : 0 ≤ s) (hs1 : s < first.length) (h0 : 0 ≤ h) (h1 : h ≤ 1000) (hnm : IsNm (nameAt first chg s h)) (w : World) (hC1 : Kd.string.C w A1 first.length first) (hC2 : k32.C w A2 chg.length chg) :
    Calls Try.prog 12 #[.agg #[.slice A1 first.length k1, .slice A2 chg.length k2], .string (nameAt first chg s h), .int .i64 h] w fun e w' => e = .returned (.tuple #[.int .i64 s, .int .i64 0]) ∧ Below w.heap.size w w' := by
  have hn2 := good.ok.n2
  have B0 : Below w.heap.size w (w.alloc (.cells #[.slice A1 first.length k1, .slice A2 chg.length k2] 27)) := (Below.refl _ w).alloc (Nat.le_refl _) _
  have HO := Lib.hid (open_ok A1 A2 k1 k2 first chg _ (Kd.C_below hC1 B0) (Kd.C_below hC2 B0) good.ok good.nc)
  have HNM := Lib.hid (fun A3 c3 W hC => names_ok A1 A2 A3 k1 k2 c3 first chg W hC good.ok h h0)
  have HB0 := Aside0.mk B0
  have hnl := namesK_length first chg (cntLe chg h)
  have hnd := good.nc (cntLe chg h) (cntLe_le chg h)
  clear B0 hC1 hC2 good
  have hsl : s.toNat < (namesK first chg (cntLe chg h)).length := by omega
  have hat : (namesK first chg (cntLe chg h))[s.toNat] = nameAt first chg s h := by
    unfold nameAt
    rw [getD_at _ _ _ hsl]
  have hne : ∀ (j : Nat) (hj : j < (namesK first chg (cntLe chg h)).length), j < s.toNat → ¬ (namesK first chg (cntLe chg h))[j] = nameAt first chg s h := by
    intro j hj hjs e
    rw [← hat] at e
    exact (List.pairwise_iff_getElem.1 hnd) j s.toNat hj hsl hjs e
  have HIX := Lib.hid (fun A c W hC => Index_str A c (namesK first chg (cntLe chg h)) (nameAt first chg s h) s.toNat hsl hat hne (by omega) W hC)
  have HIN := Lib.hid (isName_street (nameAt first chg s h) hnm)
  rw [hnl] at HIX
  generalize nameAt first chg s h = nm at HIX HIN ⊢
  clear hat hne hnm hnd hsl hnl
  go_enter Try.func12, Try.ntmps12
  go_wp2_with fail
  refine HO.out.mono ?_
  rintro e w1 ⟨A3, c3, rfl, hS, hb⟩
  have HB1 := Aside0.mk (HB0.out.trans (hb.mono HB0.out.size))
  have hC3 := (Kd.S_reads' hS).2.2
  rw [bookPages_length _ _ _ (Nat.le_refl _)] at hC3
  have HC3 := Aside0.mk hC3
  clear hS hb hC3 HO HB0
  go_wp2_with fail
  have BK := Aside0.mk (blk_new w1 (.cells #[.slice A1 first.length k1, .slice A2 chg.length k2, .slice A3 (chg.length + 1) c3] 57))
  have HBb := below_alloc (Below.refl w1.heap.size w1) (.cells #[.slice A1 first.length k1, .slice A2 chg.length k2, .slice A3 (chg.length + 1) c3] 57)
  generalize w1.alloc (.cells #[.slice A1 first.length k1, .slice A2 chg.length k2, .slice A3 (chg.length + 1) c3] 57) = w2 at BK HBb ⊢
  refine (HIN.out w2).mono ?_
  rintro e w3 ⟨rfl, hb3⟩
  have HB13 := below_step HBb hb3
  have BK3 := Aside0.mk (blk_below BK.out hb3)
  clear hb3 HBb BK
  go_wp2_with fail
  refine (isHour_yes h h0 h1 _).mono ?_
  rintro e w4 ⟨rfl, hb4⟩
  have HB14 := below_step HB13 hb4
  have BK4 := blk_below BK3.out hb4
  have HB4 := Aside0.mk (below_step HB1.out HB14)
  have HC4 := Aside0.mk (Kd.C_below HC3.out HB14)
  have s0 : w4.cell? ⟨w1.heap.size, 0, none⟩ = some (.slice A1 first.length k1) := (blk_cell BK4 0).trans rfl
  have s1 : w4.cell? ⟨w1.heap.size, 1, none⟩ = some (.slice A2 chg.length k2) := (blk_cell BK4 1).trans rfl
  have s2 : w4.cell? ⟨w1.heap.size, 2, none⟩ = some (.slice A3 (chg.length + 1) c3) := (blk_cell BK4 2).trans rfl
  clear hb4 HB13 HB14 BK3 BK4 HB1 HC3
  go_wp2_with fail
  refine (HNM.out A3 c3 w4 HC4.out).mono ?_
  rintro e w5 ⟨A4, c4, rfl, _, hC4, hb5⟩
  have HB5 := Aside0.mk (below_step HB4.out hb5)
  have HC5 := Aside0.mk hC4
  clear hC4 hb5
  go_wp2_with fail
  refine (HIX.out A4 c4 w5 HC5.out).mono ?_
  rintro e w6 ⟨rfl, hb6⟩
  have HB6 := Aside0.mk (below_step HB5.out hb6)
  have hst : ((s.toNat : Nat) : Int) = s := by omega
  rw [hst]
  have hs2 : ¬ s < 0 := by omega
  clear hb6
  go_wp2
  go_ret2
  exact ⟨rfl, HB6.out⟩
end Go.Proofs.Ytfbndhhogpacmaa
/-! sloeIsName, irisLast: the names of the three streets in the last hour, as a book. -/
namespace Go.Proofs.Ytfbndhhogpacmaa
open Go.RowKit Go.Shelf
open Go.Proofs.YtfbndhhogpacmaaW.PrintWords Go.Proofs.Ytfbndhhogpacmaa.T
set_option linter.unusedVariables false
set_option linter.unusedSimpArgs false
theorem sloeIsName_l0 (n : Nat) (hn : n < 8) : ∀ (m i : Nat), i + m = n → smaltotop_sloeIsName.l0 (m + 1) (nm8 n) names8 i = some true := by
  intro m
  induction m with
  | zero =>
    intro i hi
    obtain rfl : i = n := by omega
    have e : rdOf ByteArray.empty names8 (i : Int) = nm8 i := rfl
    rw [smaltotop_sloeIsName.l0, if_pos (by show (i : Int) < 8; omega), if_pos (by omega), if_pos (by rw [e])]
  | succ m ih =>
    intro i hi
    have e : rdOf ByteArray.empty names8 (i : Int) = nm8 i := rfl
    have hne : ¬ (nm8 i).toList = (nm8 n).toList := by
      intro h
      have h2 : ¬ nm8 i = nm8 n := fun e => by have := nm8_inj i n (by omega) hn e; omega
      have := strNe h2
      rw [h] at this
      simp at this
    rw [smaltotop_sloeIsName.l0, if_pos (by show (i : Int) < 8; omega), if_pos (by omega), if_neg (by rw [e]; exact hne), wrap_nat i (by omega)]
    exact ih (i + 1) (by omega)
theorem sloeIsName_ok (n : Nat) (hn : n < 8) (w : World) : Calls Try.prog 19 #[.string (nm8 n)] w fun e w' => e = .returned (.bool true) ∧ Below w.heap.size w w' := by
  refine smaltotop_sloeIsName.calls (n + 1) (nm8 n) true w ?_
  unfold smaltotop_sloeIsName.f
  rw [sloeNames_f, Option.bind_some]
  exact sloeIsName_l0 n hn n 0 (by omega)
/-- All names that changes bring are of the eight. -/
def In8 (s : ByteArray) : Prop := ∃ n : Nat, n < 8 ∧ s = nm8 n
theorem namesK_in8 (chg : List S32) (h : ∀ c ∈ chg, In8 c.f2) (k : Nat) : ∀ s ∈ namesK first3 chg k, In8 s := by
  induction k with
  | zero =>
    intro s hs
    simp only [namesK, first3, List.mem_cons, List.not_mem_nil, or_false] at hs
    rcases hs with rfl | rfl | rfl
    · exact ⟨0, by omega, rfl⟩
    · exact ⟨1, by omega, rfl⟩
    · exact ⟨2, by omega, rfl⟩
  | succ k ih =>
    rw [namesK]
    split
    · rename_i c hc
      intro s hs
      rcases List.mem_or_eq_of_mem_set hs with h1 | h1
      · exact ih s h1
      · rw [h1]; exact h c (List.mem_of_getElem? hc)
    · exact ih
theorem nameAt_in8 (chg : List S32) (h : ∀ c ∈ chg, In8 c.f2) (s t : Int) (h0 : 0 ≤ s) (h1 : s < 3) : In8 (nameAt first3 chg s t) := by
  have hl : s.toNat < (namesK first3 chg (cntLe chg t)).length := by rw [namesK_length]; show s.toNat < 3; omega
  unfold nameAt
  rw [getD_at _ _ _ hl]
  exact namesK_in8 chg h _ _ (List.getElem_mem hl)
/-- The names of the last hour as a book's lines. -/
def lastK (chg : List S32) (m : Nat) : List S48 := (List.range m).map fun (s : Nat) => ⟨(s : Int), nameAt first3 chg (s : Int) 1000⟩
theorem lastK_succ (chg : List S32) (m : Nat) : lastK chg (m + 1) = lastK chg m ++ [⟨(m : Int), nameAt first3 chg (m : Int) 1000⟩] := by
  unfold lastK
  rw [List.range_succ, List.map_append, List.map_cons, List.map_nil]
theorem lastK_length (chg : List S32) (m : Nat) : (lastK chg m).length = m := by simp [lastK]
theorem infoLn : (Try.prog.info? 48).map (fun i => (i.zero, i.size, i.bytes)) = some (some (.agg #[.int .i64 0, .string ⟨#[]⟩]), 2, 24) := by kernel_rfl
set_option maxRecDepth 100000 in
set_option maxHeartbeats 4000000 in
theorem irisLast_ok (A1 A2 : Option Addr) (k1 k2 : Nat) (chg : List S32) (good : GoodTown first3 chg) (h8 : ∀ c ∈ chg, In8 c.f2) (hk1 : 3 ≤ k1) (hk2 : chg.length ≤ k2) (w : World) (hC1 : Kd.string.C w A1 3 first3) (hC2 : k32.C w A2 chg.length chg) :
    Calls Try.prog 8 #[.agg #[.slice A1 3 k1, .slice A2 chg.length k2]] w fun e w' => ∃ v, e = .returned (.tuple #[v, .bool true]) ∧ k48.R 48 w' w.heap.size (fun _ => True) v (lastK chg 3) ∧ Below w.heap.size w w' := by
  have hc1 := good.ok.c1
  have HST := Lib.hid (fun W h1 h2 => sloeStreets_ok A1 A2 k1 k2 first3 chg hk1 hk2 (by decide) (by omega) W h1 h2)
  have HNM := Lib.hid (fun X1 X2 y1 y2 s h a b c d W e f => Name_ok X1 X2 y1 y2 first3 chg good s h a b c d W e f)
  rw [show first3.length = 3 from rfl] at HST HNM
  have H8 := Aside0.mk h8
  have HC1 := Aside0.mk hC1
  have HC2 := Aside0.mk hC2
  clear hC1 hC2 good h8
  go_enter Try.func8, Try.ntmps8
  go_wp2_with fail
  have BT := Aside0.mk (blk_new w (.cells #[.slice A1 3 k1, .slice A2 chg.length k2] 27))
  have HB0 := Aside0.mk (below_alloc (Below.refl w.heap.size w) (.cells #[.slice A1 3 k1, .slice A2 chg.length k2] 27))
  have hsz : (w.alloc (.cells #[.slice A1 3 k1, .slice A2 chg.length k2] 27)).heap.size = w.heap.size + 1 := by simp
  generalize w.alloc (.cells #[.slice A1 3 k1, .slice A2 chg.length k2] 27) = w1 at BT HB0 hsz ⊢
  have HE := R_empty k48 48 w1 (fun _ => True) trivial
  have HE1 := Aside0.mk (Kd.R_lower (base' := w.heap.size) HE HB0.out.size)
  rw [hsz] at HE1
  have BT1 := Aside0.mk (blk_alloc BT.out (.cells #[] 48))
  have HB1 := Aside0.mk (below_alloc HB0.out (.cells #[] 48))
  clear HE BT HB0
  go_loopw [4, 5, 6, 7] (fun s4 s5 _ _ wr => ∃ m : Nat, m ≤ 3 ∧ s5 = .int .i64 m ∧ Aside0 (k48.R 48 wr w.heap.size (fun _ => True) s4 (lastK chg m)) ∧ Aside0 (wr.heap[w.heap.size]? = some (.cells #[.slice A1 3 k1, .slice A2 chg.length k2] 27 (0, 0))) ∧ Aside0 (Below w.heap.size w wr)) (fun _ s5 _ _ _ => 3 - (intOf s5).toNat)
  case atStart => exact ⟨0, by omega, rfl, HE1, BT1, HB1⟩
  case round =>
    clear HE1 BT1 HB1
    obtain ⟨m, hm, rfl, HL, BT, HB⟩ := hrel
    rename World => wo
    by_cases hlt : m < 3
    · have hltz : (m : Int) < 3 := by omega
      have hm0 : (0 : Int) ≤ (m : Int) := by omega
      have p0 : wo.cell? ⟨w.heap.size, 0, none⟩ = some (.slice A1 3 k1) := (blk_cell BT.out 0).trans rfl
      have p1 : wo.cell? ⟨w.heap.size, 1, none⟩ = some (.slice A2 chg.length k2) := (blk_cell BT.out 1).trans rfl
      obtain ⟨n, hn8, hnm⟩ := nameAt_in8 chg H8.out m 1000 hm0 hltz
      have HLS := Aside0.mk (lastK_succ chg m)
      have hll := lastK_length chg m
      go_wp2_with fail
      refine (HST.out wo (Kd.C_below HC1.out HB.out) (Kd.C_below HC2.out HB.out)).mono ?_
      rintro e w2 ⟨X1, X2, y1, y2, rfl, _, _, hs1, hs2, hb2⟩
      have HS1 := Aside0.mk hs1
      have HS2 := Aside0.mk hs2
      have HB2 := Aside0.mk hb2
      clear hs1 hs2 hb2 p0 p1
      go_wp2_with fail
      refine (HNM.out X1 X2 y1 y2 (m : Int) 1000 hm0 hltz (by omega) (by omega) w2 HS1.out HS2.out).mono ?_
      rintro e w3 ⟨rfl, hb3⟩
      rw [hnm]
      rw [hnm] at HLS
      have HB3 := Aside0.mk (below_step HB2.out hb3)
      clear hb3 HB2 HS1 HS2 hnm
      go_wp2_with fail
      refine (sloeIsName_ok n hn8 w3).mono ?_
      rintro e w4 ⟨rfl, hb4⟩
      have HB4 := below_step HB3.out hb4
      have HBw4 := Aside0.mk (below_step HB.out HB4)
      have HL4 := Aside0.mk (Kd.R_below HL.out HB4)
      have BT4 := Aside0.mk (blk_below BT.out HB4)
      have hw4 := HBw4.out.size
      generalize nm8 n = nm at HLS ⊢
      clear hb4 HB3 HB4 HB HL BT
      go_wp2_with (at_builtin; refine Kd.R_append k48 (w0 := w) w.heap.size rfl (.tmp 27) (.tmp 31) 40 48 (.agg #[.int .i64 0, .string ⟨#[]⟩]) 24 rfl Try.underlying40 infoLn rfl (by decide) (by decide) u4 (lastK chg m) ⟨(m : Int), nm⟩ [.int .i64 m, .string nm] (fun _ => True) (fun _ => False) rfl rfl (k48_mkM _ _ _ _) (fun _ hk_ => hk_.elim) (fun _ _ => trivial) HL4.out HBw4.out hw4 (by omega) ?_; intro v9 w9 ho hb hg _; have HL9 := Aside0.mk ho; have HB9 := Aside0.mk hb; have BT9 := Aside0.mk (blk_grown BT4.out hg (Kd.R_ne HL4.out BT4.out (by decide))); clear ho hb hg)
      go_roundw
      case rel => exact ⟨m + 1, by omega, by go_num, ⟨by rw [HLS.out]; exact HL9.out⟩, BT9, HB9⟩
      case measure => simp [intOf]; omega
    · obtain rfl : m = 3 := by omega
      have hltz : ¬ ((3 : Nat) : Int) < 3 := by omega
      go_wp2
      go_ret2
      exact ⟨_, rfl, HL.out, HB.out⟩
end Go.Proofs.Ytfbndhhogpacmaa
/-! slices.Sort and slices.Compact at a row of the call's own: nothing turns but that row and new blocks. -/
namespace Go.Proofs.Ytfbndhhogpacmaa
open Go.RowKit Go.Shelf Go.Sort
open Go.Proofs.YtfbndhhogpacmaaW.PrintWords Go.Proofs.Ytfbndhhogpacmaa.T
set_option linter.unusedVariables false
set_option linter.unusedSimpArgs false
theorem Sort_own {w : World} {base g n cap : Nat} {zs : List Int} (h : w.ownsRow base 3 1 (.slice (some ⟨g, 0, none⟩) n cap) n (nums .i64 zs)) (hn : n ≤ 1000) :
    Calls Try.prog 40 #[.slice (some ⟨g, 0, none⟩) n cap] w fun e w' => e = .returned (.tuple #[]) ∧ ∃ ts : List Int, w'.ownsRow base 3 1 (.slice (some ⟨g, 0, none⟩) n cap) n (nums .i64 ts) ∧ w.grownBy w' (some g) := by
  have hl : zs.length = n := by have := h.1; simpa [nums] using this
  subst hl
  rcases h.2 with ⟨h0, _⟩ | ⟨g', cap', cur, hv, hg, hb, h1, h2, h3, h4⟩
  · cases h0
  · cases hv
    rw [Nat.mul_one] at h4
    refine (Try.slices_Sort_int g 0 cap zs w (holds_of_blockI hb h4) (blk_lt hb) (by omega)).mono ?_
    rintro e w' ⟨rfl, q, os, rfl⟩
    exact ⟨rfl, _, ownsRow_sortedI (List.length_mergeSort _) hg hb h1 h2 h3, grownBy_sortedI _⟩
theorem Compact_own {w : World} {base g n cap : Nat} {zs : List Int} (h : w.ownsRow base 3 1 (.slice (some ⟨g, 0, none⟩) n cap) n (nums .i64 zs)) (hn : n ≤ 1000) :
    Calls Try.prog 41 #[.slice (some ⟨g, 0, none⟩) n cap] w fun e w' => (∃ m, e = .returned (.slice (some ⟨g, 0, none⟩) m cap)) ∧ w.grownBy w' (some g) := by
  have hl : zs.length = n := by have := h.1; simpa [nums] using this
  subst hl
  rcases h.2 with ⟨h0, _⟩ | ⟨g', cap', cur, hv, hg, hb, h1, h2, h3, h4⟩
  · cases h0
  · cases hv
    rw [Nat.mul_one] at h4
    refine (Try.slices_Compact_int g 0 cap zs w (holds_of_blockI hb h4) (by omega) h1).mono ?_
    rintro e w' ⟨rfl, q, rfl⟩
    have hg2 := grownBy_sortedI (w := w) (g := g) (n := q) (os := #[]) (Lib.compact zs ++ List.replicate (zs.length - (Lib.compact zs).length) 0).toArray
    rw [grow_empty] at hg2
    exact ⟨⟨_, rfl⟩, hg2⟩
end Go.Proofs.Ytfbndhhogpacmaa
