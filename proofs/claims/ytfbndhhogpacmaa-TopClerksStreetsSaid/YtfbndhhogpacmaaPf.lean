import Derived.Test.YtfbndhhogpacmaaPe
import Derived.Deep.QuietTactic
import Derived.BigQuiet
import Derived.Test.YtfbndhhogpacmaaPb
import Derived.Test.YtfbndhhogpacmaaPc
/-! coat.Check, coat.open at works that are valid. -/
namespace Go.Proofs.Ytfbndhhogpacmaa
open Go.RowKit Go.Shelf
open Go.Proofs.YtfbndhhogpacmaaW.PrintWords Go.Proofs.Ytfbndhhogpacmaa.T
set_option linter.unusedVariables false
set_option linter.unusedSimpArgs false
theorem C_two (w : World) (b : Nat) (x y : Int) (hx : w.cell? ⟨b, 0, none⟩ = some (.int .i64 x)) (hy : w.cell? ⟨b, 1, none⟩ = some (.int .i64 y)) : (Kd.int .i64).C w (some ⟨b, 0, none⟩) 2 [x, y] :=
  ⟨rfl, by omega, fun _ => ⟨_, rfl, fun j p hj => by
    match j, hj with
    | 0, hj =>
      simp at hj
      subst hj
      exact ⟨[.int .i64 x], rfl, rfl, fun i u hi => by
        match i, hi with
        | 0, hi => simp at hi; subst hi; simpa [Addr.add] using hx⟩
    | 1, hj =>
      simp at hj
      subst hj
      exact ⟨[.int .i64 y], rfl, rfl, fun i u hi => by
        match i, hi with
        | 0, hi =>
          simp at hi
          subst hi
          have hs : (Kd.int .i64).sz = 1 := rfl
          rw [hs]
          simpa [Addr.add] using hy⟩⟩⟩
theorem within_coat_2y (lo hi x y : Int) (b : Nat) (w : World) (h1 : lo ≤ x) (h2 : x ≤ hi) (h3 : lo ≤ y) (h4 : y ≤ hi) (hx : w.cell? ⟨b, 0, none⟩ = some (.int .i64 x)) (hy : w.cell? ⟨b, 1, none⟩ = some (.int .i64 y)) :
    Calls Try.prog 76 #[.int .i64 lo, .int .i64 hi, .slice (some ⟨b, 0, none⟩) 2 2] w fun e w' => e = .returned (.bool true) ∧ Below w.heap.size w w' :=
  (within_coat lo hi (some ⟨b, 0, none⟩) 2 [x, y] w (C_two w b x y hx hy)).mono fun e w' ⟨he, hb⟩ => ⟨by rw [he]; simp [h1, h2, h3, h4], hb⟩
theorem isSpan_yes (lo hi x y : Int) (h1 : lo ≤ x) (h2 : x ≤ y) (h3 : y ≤ hi) (w : World) :
    Calls Try.prog 96 #[.int .i64 lo, .int .i64 hi, .agg #[.int .i64 x, .int .i64 y]] w fun e w' => e = .returned (.bool true) ∧ Below w.heap.size w w' := by
  go_enter Try.func96, Try.ntmps96
  go_wp2_with fail
  refine (within_coat_2y lo hi x y _ _ h1 (by omega) (by omega) h3 (by simp) (by simp)).mono ?_
  rintro e w1 ⟨rfl, hb1⟩
  have B1 : Below w.heap.size w w1 := (((Below.refl _ w).alloc (Nat.le_refl _) _).alloc (by simp) _).trans (hb1.mono (by simp; omega))
  have q1 : w1.cell? ⟨w.heap.size, 0, none⟩ = some (.int .i64 x) := (hb1.cell (p := ⟨w.heap.size, 0, none⟩) (by simp; omega)).trans (by simp)
  have q2 : w1.cell? ⟨w.heap.size, 1, none⟩ = some (.int .i64 y) := (hb1.cell (p := ⟨w.heap.size, 1, none⟩) (by simp; omega)).trans (by simp)
  go_wp2
  go_ret
  exact ⟨by simp [h2], B1⟩
/-- A slip that is valid. -/
structure OkSlip (s : S64) : Prop where
  t1 : 1 ≤ s.f0.f0
  t2 : s.f0.f0 ≤ s.f0.f1
  t3 : s.f0.f1 ≤ 60
  t4 : s.f0.f1 - s.f0.f0 < 10
  o1 : 0 ≤ s.f1.f0
  o2 : s.f1.f0 ≤ s.f1.f1
  o3 : s.f1.f1 ≤ 20
  p1 : 0 ≤ s.f2
  p2 : s.f2 ≤ 100
set_option maxHeartbeats 1000000 in
theorem coatCheck1_ok (s : S64) (hs : OkSlip s) (w : World) :
    Calls Try.prog 95 #[.agg #[.int .i64 s.f0.f0, .int .i64 s.f0.f1, .int .i64 s.f1.f0, .int .i64 s.f1.f1, .int .i64 s.f2]] w fun e w' => e = .returned (.bool false) ∧ Below w.heap.size w w' := by
  obtain ⟨h1, h2, h3, h4, h5, h6, h7, h8, h9⟩ := hs
  obtain ⟨⟨a, b⟩, ⟨c, d⟩, p⟩ := s
  simp only at h1 h2 h3 h4 h5 h6 h7 h8 h9 ⊢
  go_enter Try.func95, Try.ntmps95
  go_wp2_with fail
  have B0 : Below w.heap.size w (w.alloc (.cells #[.int .i64 a, .int .i64 b, .int .i64 c, .int .i64 d, .int .i64 p] 64)) := (Below.refl _ w).alloc (Nat.le_refl _) _
  refine (isSpan_yes 1 60 a b h1 h2 h3 _).mono ?_
  rintro e w1 ⟨rfl, hb1⟩
  have HB1 := Aside0.mk (B0.trans (hb1.mono (by simp)))
  have hw1 : w.heap.size < w1.heap.size := Nat.lt_of_lt_of_le (by simp) hb1.size
  have t0 := Aside0.mk (blk_below (blk_new w (.cells #[.int .i64 a, .int .i64 b, .int .i64 c, .int .i64 d, .int .i64 p] 64)) hb1)
  have q0 : w1.cell? ⟨w.heap.size, 0, none⟩ = some (.int .i64 a) := (blk_cell t0.out 0).trans rfl
  have q1 : w1.cell? ⟨w.heap.size, 1, none⟩ = some (.int .i64 b) := (blk_cell t0.out 1).trans rfl
  have q2 : w1.cell? ⟨w.heap.size, 2, none⟩ = some (.int .i64 c) := (blk_cell t0.out 2).trans rfl
  have q3 : w1.cell? ⟨w.heap.size, 3, none⟩ = some (.int .i64 d) := (blk_cell t0.out 3).trans rfl
  clear hb1 B0
  have hge0 : ¬ 10 ≤ b - a := by omega
  have HGE := Aside0.mk hge0
  go_wp2_with fail
  refine (isSpan_yes 0 20 c d h5 h6 h7 _).mono ?_
  rintro e w2 ⟨rfl, hb2⟩
  have t2 := Aside0.mk (blk_below t0.out hb2)
  have q4 : w2.cell? ⟨w.heap.size, 4, none⟩ = some (.int .i64 p) := (blk_cell t2.out 4).trans rfl
  have HB2 := Aside0.mk (below_step HB1.out hb2)
  clear hb2 HB1 t0 q0 q1 q2 q3
  go_wp2_with fail
  refine (within_coat_1y 0 100 p _ _ h8 h9 (by simp)).mono ?_
  rintro e w3 ⟨rfl, hb3⟩
  go_wp2
  go_ret
  exact ⟨ret_bool (decide_eq_false (by omega)), below_step (below_alloc HB2.out _) hb3⟩
/-- Works that are valid. -/
structure OkWorks (ss : List S64) (hides drops : Int) : Prop where
  n1 : 1 ≤ ss.length
  n2 : ss.length ≤ 4
  sl : ∀ s ∈ ss, OkSlip s
  h1 : 1 ≤ hides
  h2 : hides ≤ drops
  h3 : drops ≤ 400
set_option maxHeartbeats 1000000 in
theorem coatCheck_ok (A : Option Addr) (k : Nat) (ss : List S64) (hides drops : Int) (ok : OkWorks ss hides drops) (w : World) (hC : k64.C w A ss.length ss) :
    Calls Try.prog 89 #[.agg #[.slice A ss.length k, .int .i64 hides, .int .i64 drops]] w fun e w' => e = .returned (.int .i64 0) ∧ Below w.heap.size w w' := by
  obtain ⟨n1, n2, sl, h1, h2, h3⟩ := ok
  have HSL := Aside0.mk sl
  have HC := Aside0.mk hC
  clear sl hC
  go_enter Try.func89, Try.ntmps89
  go_wp2_with fail
  have B0 : Below w.heap.size w (w.alloc (.cells #[.slice A ss.length k, .int .i64 hides, .int .i64 drops] 67)) := (Below.refl _ w).alloc (Nat.le_refl _) _
  refine (within_coat_1y 1 4 (ss.length : Int) _ _ (by omega) (by omega) (by simp)).mono ?_
  rintro e w1 ⟨rfl, hb1⟩
  have t1 := Aside0.mk (blk_below (blk_alloc (blk_new w (.cells #[.slice A ss.length k, .int .i64 hides, .int .i64 drops] 67)) _) hb1)
  have HB1 := Aside0.mk (below_step (below_alloc B0 _) hb1)
  have q1 : w1.cell? ⟨w.heap.size, 1, none⟩ = some (.int .i64 hides) := (blk_cell t1.out 1).trans rfl
  have q2 : w1.cell? ⟨w.heap.size, 2, none⟩ = some (.int .i64 drops) := (blk_cell t1.out 2).trans rfl
  clear hb1 B0
  go_wp2_with fail
  refine (within_coat_2y 1 400 hides drops _ _ h1 (by omega) (by omega) h3 (by simp) (by simp)).mono ?_
  rintro e w2 ⟨rfl, hb2⟩
  have t2 := Aside0.mk (blk_below (blk_alloc t1.out _) hb2)
  have HB2 := Aside0.mk (below_step (below_alloc HB1.out _) hb2)
  have r0 : w2.cell? ⟨w.heap.size, 0, none⟩ = some (.slice A ss.length k) := (blk_cell t2.out 0).trans rfl
  have r1 : w2.cell? ⟨w.heap.size, 1, none⟩ = some (.int .i64 hides) := (blk_cell t2.out 1).trans rfl
  have r2 : w2.cell? ⟨w.heap.size, 2, none⟩ = some (.int .i64 drops) := (blk_cell t2.out 2).trans rfl
  clear hb2 HB1 q1 q2 t1
  have hcf := ContainsFunc_T64 95 #[] (enters_of Try.func95 (by kernel_rfl) rfl) (fun _ => false) A k ss w2 (by
    intro W x cs hx hW hK
    obtain rfl := k64_open hK
    exact coatCheck1_ok x (HSL.out x hx) W) (Kd.C_below HC.out HB2.out)
  have hany : (ss.any fun _ => false) = false := by simp
  rw [hany] at hcf
  have HCF := Lib.hid hcf
  clear hcf hany
  go_wp2_with fail
  refine HCF.out.mono ?_
  rintro e w3 ⟨rfl, hb3⟩
  go_wp2
  go_ret
  exact ⟨rfl, below_step HB2.out hb3⟩
set_option maxRecDepth 100000 in
set_option maxHeartbeats 1000000 in
theorem coatOpen_ok (A : Option Addr) (k : Nat) (ss : List S64) (hides drops : Int) (ok : OkWorks ss hides drops) (w : World) (hC : k64.C w A ss.length ss) :
    Calls Try.prog 74 #[.agg #[.slice A ss.length k, .int .i64 hides, .int .i64 drops]] w fun e w' => e = .returned (.tuple #[.agg #[.slice A ss.length k, .int .i64 hides, .int .i64 drops], .int .i64 0]) ∧ Below w.heap.size w w' := by
  have HCK := Lib.hid (fun W hC => coatCheck_ok A k ss hides drops ok W hC)
  have HC := Aside0.mk hC
  clear hC ok
  go_enter Try.func74, Try.ntmps74
  go_wp2_with fail
  have BK1 := Aside0.mk (blk_alloc (blk_new w (.cells #[.slice A ss.length k, .int .i64 hides, .int .i64 drops] 67)) (.cells #[.slice none 0 0, .int .i64 0, .int .i64 0] 124))
  have t2 := blk_new (w.alloc (.cells #[.slice A ss.length k, .int .i64 hides, .int .i64 drops] 67)) (.cells #[.slice none 0 0, .int .i64 0, .int .i64 0] 124)
  rw [World.size_alloc] at t2
  have BK2 := Aside0.mk t2
  have HB0 := Aside0.mk (below_alloc (below_alloc (Below.refl w.heap.size w) (.cells #[.slice A ss.length k, .int .i64 hides, .int .i64 drops] 67)) (.cells #[.slice none 0 0, .int .i64 0, .int .i64 0] 124))
  clear t2
  generalize (w.alloc (.cells #[.slice A ss.length k, .int .i64 hides, .int .i64 drops] 67)).alloc (.cells #[.slice none 0 0, .int .i64 0, .int .i64 0] 124) = W0 at BK1 BK2 HB0 ⊢
  have HCW := Aside0.mk (Kd.C_below HC.out HB0.out)
  have p0 : W0.cell? ⟨w.heap.size, 0, none⟩ = some (.slice A ss.length k) := (blk_cell BK1.out 0).trans rfl
  have p1 : W0.cell? ⟨w.heap.size, 1, none⟩ = some (.int .i64 hides) := (blk_cell BK1.out 1).trans rfl
  have p2 : W0.cell? ⟨w.heap.size, 2, none⟩ = some (.int .i64 drops) := (blk_cell BK1.out 2).trans rfl
  have hl1 := blk_lt BK1.out
  have hl2 := blk_lt BK2.out
  go_region_with (go_at_call 89; refine (HCK.out _ ?hcx).mono ?_; (case hcx => repeat (first | exact HCW.out | (with_reducible refine Kd.C_drewN ?_ _) | (with_reducible refine Kd.C_drew ?_))); rintro e wN ⟨rfl, hbN⟩; have BKn : wN.heap[w.heap.size]? = some (.cells #[.slice A ss.length k, .int .i64 hides, .int .i64 drops] 67 (0, 0)) := (hbN.block _ (by first | exact hl1 | simpa using hl1)).trans (by first | exact BK1.out | simpa using BK1.out); have BKm : wN.heap[w.heap.size + 1]? = some (.cells #[.slice none 0 0, .int .i64 0, .int .i64 0] 124 (0, 0)) := (hbN.block _ (by first | exact hl2 | simpa using hl2)).trans (by first | exact BK2.out | simpa using BK2.out); have HBn : Below w.heap.size w wN := (below_step (by first | exact HB0.out | exact below_drew HB0.out) hbN); have q0 : wN.cell? ⟨w.heap.size, 0, none⟩ = some (.slice A ss.length k) := (blk_cell BKn 0).trans rfl; have q1 : wN.cell? ⟨w.heap.size, 1, none⟩ = some (.int .i64 hides) := (blk_cell BKn 1).trans rfl; have q2 : wN.cell? ⟨w.heap.size, 2, none⟩ = some (.int .i64 drops) := (blk_cell BKn 2).trans rfl; have r0 : wN.cell? ⟨w.heap.size + 1, 0, none⟩ = some (.slice none 0 0) := (blk_cell BKm 0).trans rfl; have r1 : wN.cell? ⟨w.heap.size + 1, 1, none⟩ = some (.int .i64 0) := (blk_cell BKm 1).trans rfl; have r2 : wN.cell? ⟨w.heap.size + 1, 2, none⟩ = some (.int .i64 0) := (blk_cell BKm 2).trans rfl; have s0 := blk_frozen BKm 0; have s1 := blk_frozen BKm 1; have s2 := blk_frozen BKm 2)
  all_goals
    go_wp2
    refine bodyPost_ret (results_ct rfl _ _ (w.heap.size + 1) _ _ (0, 0) _ rfl (blk_put3 BKm (.slice A ss.length k) (.int .i64 hides) (.int .i64 drops)) Try.underlying124 rfl (by kernel_rfl)) rfl ?_
    exact ⟨rfl, below_put3 HBn (by omega) _ _ _⟩
end Go.Proofs.Ytfbndhhogpacmaa
/-! coat: areCoats, the closure of jobs, count. -/
namespace Go.Proofs.Ytfbndhhogpacmaa
open Go.RowKit Go.Shelf
open Go.Proofs.YtfbndhhogpacmaaW.PrintWords Go.Proofs.Ytfbndhhogpacmaa.T
set_option linter.unusedVariables false
set_option linter.unusedSimpArgs false
set_option maxHeartbeats 1000000 in
theorem IndexFunc_T105 (g : Nat) (lb : Array Value) (eg : ∀ args w, (callFunc g args).run Try.prog w = .ok (.enter g args) w) (p : S105 → Bool) (A : Option Addr) (c : Nat) (xs : List S105) (w : World)
    (hp : PredK Try.prog g lb agg1 k105 p xs w) (hr : k105.C w A xs.length xs) :
    Calls Try.prog 91 #[.slice A xs.length c, .func (.func g) #[] lb] w fun e w' => ∃ r : Int, e = .returned (.int .i64 r) ∧ decide (0 ≤ r) = xs.any p ∧ Below w.heap.size w w' := by
  have hmax := Kd.C_max hr
  have HR := Aside0.mk hr
  have HP := Aside0.mk hp
  clear hr hp
  go_enter Try.func91, Try.ntmps91
  go_wp2
  go_loopg [5, 8] xs.length (fun gg _ s8 wr => ∃ kk : Nat, kk ≤ xs.length ∧ xs.length - kk ≤ gg ∧ s8 = .int .i64 kk ∧ Aside0 (Below w.heap.size w wr) ∧ Aside0 ((xs.take kk).any p = false))
  case atStart => exact ⟨0, Nat.zero_le _, by omega, rfl, ⟨Below.refl _ w⟩, ⟨by simp⟩⟩
  case round =>
    obtain ⟨kk, hkk, hg, rfl, HB, HA⟩ := hrel
    by_cases hlt : kk < xs.length
    · have hltz : (kk : Int) < (xs.length : Int) := by omega
      obtain ⟨ad, A1, c1, eA, hc0, hc1, hl1, hC1⟩ := at_T105 (Kd.C_below HR.out HB.out) (kk : Int) (by omega) (by omega)
      subst eA
      have hrd : rd_T105 xs (kk : Int) = xs[kk] := getD_at xs kk _ hlt
      simp only [hrd, Int.toNat_natCast] at hc0 hc1 hl1 hC1
      have B := Aside0.mk (take_any_succ p xs kk hlt)
      have hcall : Calls Try.prog g (#[.agg ([.int .i64 xs[kk].f0, .slice A1 xs[kk].f1.length c1] : List Value).toArray] ++ lb) wr fun e w' => e = .returned (.bool (p xs[kk])) ∧ Below wr.heap.size wr w' := HP.out wr xs[kk] [.int .i64 xs[kk].f0, .slice A1 xs[kk].f1.length c1] (List.getElem_mem hlt) HB.out (k105_mk wr xs[kk] hl1 hC1)
      clear hrd hl1 hC1
      generalize xs[kk] = y at hc0 hc1 B hcall
      cases hq : p y with
      | true =>
        rw [hq] at hcall B
        go_wp2_with (go_at_fn g; refine hcall.mono ?_; rintro e w' ⟨rfl, hb'⟩)
        go_ret
        refine ⟨_, rfl, ?_, HB.out.trans (hb'.mono HB.out.size)⟩
        rw [any_of_take p xs (kk + 1) (by rw [B.out]; simp)]
        simp
      | false =>
        rw [hq] at hcall B
        go_wp2_with (go_at_fn g; refine hcall.mono ?_; rintro e w' ⟨rfl, hb'⟩)
        go_roundg (xs.length - (kk + 1))
        case measure => omega
        case rel => exact ⟨kk + 1, by omega, by omega, by go_num, ⟨HB.out.trans (hb'.mono HB.out.size)⟩, ⟨by rw [B.out, HA.out]; rfl⟩⟩
    · have hltz : ¬ (kk : Int) < (xs.length : Int) := by omega
      obtain rfl : kk = xs.length := by omega
      go_wp2
      go_ret
      refine ⟨_, rfl, ?_, HB.out⟩
      have := HA.out
      rw [List.take_length] at this
      rw [this]
      rfl
theorem ContainsFunc_T105 (g : Nat) (lb : Array Value) (eg : ∀ args w, (callFunc g args).run Try.prog w = .ok (.enter g args) w) (p : S105 → Bool) (A : Option Addr) (c : Nat) (xs : List S105) (w : World)
    (hp : PredK Try.prog g lb agg1 k105 p xs w) (hr : k105.C w A xs.length xs) :
    Calls Try.prog 78 #[.slice A xs.length c, .func (.func g) #[] lb] w fun e w' => e = .returned (.bool (xs.any p)) ∧ Below w.heap.size w w' := by
  have HC := Lib.hid (IndexFunc_T105 g lb eg p A c xs w hp hr)
  clear hr hp
  go_enter Try.func78, Try.ntmps78
  go_wp2_with (go_at_call 91; refine (HC.out).mono ?_; rintro e w' ⟨r, rfl, hq, hb⟩; replace hq := Aside0.mk hq)
  go_ret
  exact ⟨ret_bool hq.out, hb⟩
theorem areCoats_ok (A A1 : Option Addr) (n k c1 : Nat) (hides drops : Int) (l : List Int) (hl : l.length ≤ 8) (hn : n ≤ 4) (hx : ∀ x ∈ l, 0 ≤ x ∧ x < n) (w : World) (hC : (Kd.int .i64).C w A1 l.length l) :
    Calls Try.prog 77 #[.agg #[.slice A n k, .int .i64 hides, .int .i64 drops], .slice A1 l.length c1] w fun e w' => e = .returned (.bool true) ∧ Below w.heap.size w w' := by
  have B0 : Below w.heap.size w (w.alloc (.cells #[.slice A n k, .int .i64 hides, .int .i64 drops] 124)) := (Below.refl _ w).alloc (Nat.le_refl _) _
  have hall : (l.all fun x => decide (0 ≤ x) && decide (x ≤ (n : Int) - 1)) = true := by
    rw [List.all_eq_true]
    intro x h
    have := hx x h
    simp; omega
  have hw := within_coat 0 ((n : Int) - 1) A1 c1 l _ (Kd.C_below hC B0)
  rw [hall] at hw
  have HW := Lib.hid hw
  have HB := Aside0.mk B0
  have hl8 : (l.length : Int) ≤ 8 := by omega
  clear hw hall hC B0 hx
  go_enter Try.func77, Try.ntmps77
  go_wp2_with (go_at_call 76; refine (HW.out).mono ?_; rintro e w' ⟨rfl, hb⟩)
  go_ret
  exact ⟨rfl, HB.out.trans (hb.mono (by simp))⟩
/-- A job that is valid, of works with n slips. -/
structure OkJob (n : Nat) (j : S105) : Prop where
  f1 : 1 ≤ j.f0
  f2 : j.f0 ≤ 200
  l1 : j.f1.length ≤ 8
  cs : ∀ x ∈ j.f1, 0 ≤ x ∧ x < n
set_option maxHeartbeats 1000000 in
theorem jobs1_ok (n : Nat) (hn : n ≤ 4) (A : Option Addr) (k : Nat) (hides drops : Int) (j : S105) (ok : OkJob n j) (A1 : Option Addr) (c1 : Nat) (b : Nat) (w : World) (hC : (Kd.int .i64).C w A1 j.f1.length j.f1)
    (hb : w.heap[b]? = some (.cells #[.slice A n k, .int .i64 hides, .int .i64 drops] 124 (0, 0))) :
    Calls Try.prog 75 #[.agg #[.int .i64 j.f0, .slice A1 j.f1.length c1], .pointer (some ⟨b, 0, none⟩)] w fun e w' => e = .returned (.bool false) ∧ Below w.heap.size w w' := by
  obtain ⟨f1, f2, l1, cs⟩ := ok
  have HA := Lib.hid (fun W hC => areCoats_ok A A1 n k c1 hides drops j.f1 l1 hn cs W hC)
  have HC := Aside0.mk hC
  have HBK := Aside0.mk hb
  have hlt := blk_lt hb
  generalize j.f0 = feet at f1 f2
  generalize hm : j.f1.length = m at HA HC
  clear hC hb l1 cs
  go_enter Try.func75, Try.ntmps75
  go_wp2_with fail
  refine (within_coat_1y 1 200 feet _ _ f1 f2 (by simp)).mono ?_
  rintro e w1 ⟨rfl, hb1⟩
  have HB1 := Aside0.mk (below_step (below_alloc (below_alloc (Below.refl w.heap.size w) (.cells #[.int .i64 feet, .slice A1 m c1] 105)) _) hb1)
  have BX := Aside0.mk (blk_below (blk_alloc (blk_new w (.cells #[.int .i64 feet, .slice A1 m c1] 105)) _) hb1)
  have BK := Aside0.mk (blk_below HBK.out HB1.out)
  have q0 : w1.cell? ⟨b, 0, none⟩ = some (.slice A n k) := (blk_cell BK.out 0).trans rfl
  have q1 : w1.cell? ⟨b, 1, none⟩ = some (.int .i64 hides) := (blk_cell BK.out 1).trans rfl
  have q2 : w1.cell? ⟨b, 2, none⟩ = some (.int .i64 drops) := (blk_cell BK.out 2).trans rfl
  have x1 : w1.cell? ⟨w.heap.size, 1, none⟩ = some (.slice A1 m c1) := (blk_cell BX.out 1).trans rfl
  clear hb1
  go_wp2_with fail
  refine (HA.out _ (Kd.C_below HC.out HB1.out)).mono ?_
  rintro e w2 ⟨rfl, hb2⟩
  go_wp2
  go_ret
  exact ⟨rfl, below_step HB1.out hb2⟩
end Go.Proofs.Ytfbndhhogpacmaa
/-! coat.count. -/
namespace Go.Proofs.Ytfbndhhogpacmaa
open Go.RowKit Go.Shelf
open Go.Proofs.YtfbndhhogpacmaaW.PrintWords Go.Proofs.Ytfbndhhogpacmaa.T
set_option linter.unusedVariables false
set_option linter.unusedSimpArgs false
/-- How often the slips 0 to 3 stand in a list. -/
def cntArr (l : List Int) : Array Value := #[.int .i64 (cnt l 0), .int .i64 (cnt l 1), .int .i64 (cnt l 2), .int .i64 (cnt l 3)]
theorem cntArr_at (l : List Int) (x : Int) (h0 : 0 ≤ x) (h1 : x < 4) : (cntArr l)[x.toNat]? = some (.int .i64 (cnt l x)) := by
  have : x = 0 ∨ x = 1 ∨ x = 2 ∨ x = 3 := by omega
  rcases this with rfl | rfl | rfl | rfl <;> rfl
theorem cntArr_step (l : List Int) (x : Int) (h0 : 0 ≤ x) (h1 : x < 4) : (cntArr l).setIfInBounds x.toNat (.int .i64 ((cnt l x : Int) + 1)) = cntArr (l ++ [x]) := by
  have : x = 0 ∨ x = 1 ∨ x = 2 ∨ x = 3 := by omega
  rcases this with rfl | rfl | rfl | rfl <;> simp [cntArr, cnt]
set_option maxRecDepth 100000 in
set_option maxHeartbeats 1000000 in
theorem count_ok (A : Option Addr) (c : Nat) (l : List Int) (hl : l.length ≤ 8) (hx : ∀ x ∈ l, 0 ≤ x ∧ x < 4) (w : World) (hC : (Kd.int .i64).C w A l.length l) :
    Calls Try.prog 79 #[.slice A l.length c] w fun e w' => e = .returned (.agg (cntArr l)) ∧ Below w.heap.size w w' := by
  have HC := Aside0.mk hC
  have HX := Aside0.mk hx
  clear hC hx
  go_enter Try.func79, Try.ntmps79
  go_wp2
  go_loopw [4, 7] (fun _ s7 wr => ∃ k : Nat, k ≤ l.length ∧ s7 = .int .i64 k ∧ Aside0 (wr.heap[w.heap.size]? = some (.cells (cntArr (l.take k)) 151 (0, 0))) ∧ Aside0 (Below w.heap.size w wr)) (fun _ s7 _ => l.length - (intOf s7).toNat)
  case atStart => exact ⟨0, Nat.zero_le _, rfl, ⟨blk_new w _⟩, ⟨(Below.refl _ w).alloc (Nat.le_refl _) _⟩⟩
  case round =>
    obtain ⟨k, hk, rfl, BK, HB⟩ := hrel
    by_cases hlt : k < l.length
    · have hltz : (k : Int) < (l.length : Int) := by omega
      obtain ⟨ad, eA, hcell⟩ := C_int_at (Kd.C_below HC.out HB.out) k hlt
      subst eA
      rw [getD_at l k _ hlt] at hcell
      obtain ⟨h0, h1⟩ := HX.out l[k] (List.getElem_mem hlt)
      have ht : l.take (k + 1) = l.take k ++ [l[k]] := List.take_succ_eq_append_getElem hlt
      have HT := Aside0.mk ht
      clear ht
      generalize l[k] = x at hcell h0 h1 HT
      have p0 : wr.cell? ⟨w.heap.size, x.toNat, none⟩ = some (.int .i64 (cnt (l.take k) x)) := (blk_cell BK.out x.toNat).trans (cntArr_at _ x h0 h1)
      have f0 := blk_frozen BK.out x.toNat
      have hc8 : cnt (l.take k) x ≤ 8 := by have := cnt_le (l.take k) x; rw [List.length_take] at this; omega
      have BN := Aside0.mk (blk_put BK.out x.toNat (.int .i64 ((cnt (l.take k) x : Int) + 1)) (cntArr_step (l.take k) x h0 h1))
      have HBN := Aside0.mk (below_set (g := w.heap.size) (j := x.toNat) (v := .int .i64 ((cnt (l.take k) x : Int) + 1)) HB.out (Nat.le_refl _))
      rw [← HT.out] at BN
      generalize cnt (l.take k) x = n at p0 hc8 BN HBN
      go_wp2
      go_roundw
      case rel => exact ⟨k + 1, by omega, by go_num, BN, HBN⟩
      case measure => simp [intOf]; omega
    · obtain rfl : k = l.length := by omega
      have hltz : ¬ (l.length : Int) < (l.length : Int) := by omega
      have BK2 := BK.out
      rw [List.take_length] at BK2
      have BKL := Aside0.mk BK2
      have q0 : wr.cell? ⟨w.heap.size, 0, none⟩ = some (.int .i64 (cnt l 0)) := (blk_cell BK2 0).trans rfl
      have q1 : wr.cell? ⟨w.heap.size, 1, none⟩ = some (.int .i64 (cnt l 1)) := (blk_cell BK2 1).trans rfl
      have q2 : wr.cell? ⟨w.heap.size, 2, none⟩ = some (.int .i64 (cnt l 2)) := (blk_cell BK2 2).trans rfl
      have q3 : wr.cell? ⟨w.heap.size, 3, none⟩ = some (.int .i64 (cnt l 3)) := (blk_cell BK2 3).trans rfl
      have f0 := blk_frozen BK2 0
      have f1 := blk_frozen BK2 1
      have f2 := blk_frozen BK2 2
      have f3 := blk_frozen BK2 3
      clear BK2 BK
      go_wp2
      have e0 := blk_put (blk_put (blk_put (blk_put BKL.out 0 (.int .i64 (cnt l 0)) rfl) 1 (.int .i64 (cnt l 1)) rfl) 2 (.int .i64 (cnt l 2)) rfl) 3 (.int .i64 (cnt l 3)) rfl
      refine bodyPost_ret (results_cell_row rfl _ _ w.heap.size _ _ (0, 0) _ rfl e0 Try.underlying151 rfl (by kernel_rfl)) rfl ?_
      exact ⟨rfl, below_set (below_set (below_set (below_set HB.out (Nat.le_refl _)) (Nat.le_refl _)) (Nat.le_refl _)) (Nat.le_refl _)⟩
end Go.Proofs.Ytfbndhhogpacmaa
/-! coat.jobs. -/
namespace Go.Proofs.Ytfbndhhogpacmaa
open Go.RowKit Go.Shelf
open Go.Proofs.YtfbndhhogpacmaaW.PrintWords Go.Proofs.Ytfbndhhogpacmaa.T
set_option linter.unusedVariables false
set_option linter.unusedSimpArgs false
/-- What a job takes of the first k slips. -/
def takeK (ss : List S64) (j : S105) : Nat → List S61
  | 0 => []
  | i + 1 => match ss[i]? with
    | some s => takeK ss j i ++ [⟨(cnt j.f1 (i : Int) : Int) * j.f0 * s.f1.f0, (cnt j.f1 (i : Int) : Int) * j.f0 * s.f1.f1⟩]
    | none => takeK ss j i
def takeOf (ss : List S64) (j : S105) : List S61 := takeK ss j ss.length
theorem takeK_succ (ss : List S64) (j : S105) (i : Nat) (hi : i < ss.length) : takeK ss j (i + 1) = takeK ss j i ++ [⟨(cnt j.f1 (i : Int) : Int) * j.f0 * ss[i].f1.f0, (cnt j.f1 (i : Int) : Int) * j.f0 * ss[i].f1.f1⟩] := by
  rw [takeK, List.getElem?_eq_getElem hi]
theorem takeK_length (ss : List S64) (j : S105) (i : Nat) (hi : i ≤ ss.length) : (takeK ss j i).length = i := by
  induction i with
  | zero => rfl
  | succ i ih => rw [takeK_succ _ _ _ (by omega), List.length_append, ih (by omega)]; rfl
theorem mul_small {a b : Int} {m n : Nat} (ha0 : 0 ≤ a) (ha : a ≤ m) (hb0 : 0 ≤ b) (hb : b ≤ n) : 0 ≤ a * b ∧ a * b ≤ ((m * n : Nat) : Int) := by
  refine ⟨Int.mul_nonneg ha0 hb0, ?_⟩
  rw [Int.natCast_mul]
  exact Int.mul_le_mul ha hb hb0 (Int.natCast_nonneg m)
theorem infoSpan : (Try.prog.info? 61).map (fun i => (i.zero, i.size, i.bytes)) = some (some (.agg #[.int .i64 0, .int .i64 0]), 2, 16) := by kernel_rfl
theorem infoSpans : (Try.prog.info? 68).map (fun i => (i.zero, i.size, i.bytes)) = some (some (.slice none 0 0), 1, 24) := by kernel_rfl
set_option maxRecDepth 100000 in
set_option maxHeartbeats 4000000 in
theorem jobs_ok (A A2 : Option Addr) (k k2 : Nat) (ss : List S64) (hides drops : Int) (ok : OkWorks ss hides drops) (js : List S105) (hjs : ∀ j ∈ js, OkJob ss.length j) (hlen : js.length ≤ 6) (w : World) (hC : k64.C w A ss.length ss) (hJ : k105.C w A2 js.length js) :
    Calls Try.prog 56 #[.agg #[.slice A ss.length k, .int .i64 hides, .int .i64 drops], .slice A2 js.length k2] w fun e w' => ∃ v, e = .returned (.tuple #[.agg #[.slice A ss.length k, .int .i64 hides, .int .i64 drops], v, .int .i64 0]) ∧ (Kd.slice 61 k61).S 68 w' w.heap.size (fun _ => True) v (js.map (takeOf ss)) ∧ Below w.heap.size w w' := by
  have n1 := ok.n1
  have n2 := ok.n2
  have HOP := Lib.hid (fun W hC => coatOpen_ok A k ss hides drops ok W hC)
  have HSL := Aside0.mk ok.sl
  have HC := Aside0.mk hC
  have HJ := Aside0.mk hJ
  have HJS := Aside0.mk hjs
  clear ok hC hJ hjs
  go_enter Try.func56, Try.ntmps56
  go_wp2_with fail
  have HB0 := Aside0.mk (below_alloc (below_alloc (Below.refl w.heap.size w) (.cells #[.slice A ss.length k, .int .i64 hides, .int .i64 drops] 67)) (.cells #[.slice none 0 0, .int .i64 0, .int .i64 0] 124))
  have t2 := blk_new (w.alloc (.cells #[.slice A ss.length k, .int .i64 hides, .int .i64 drops] 67)) (.cells #[.slice none 0 0, .int .i64 0, .int .i64 0] 124)
  rw [World.size_alloc] at t2
  have BK2 := Aside0.mk t2
  clear t2
  generalize (w.alloc (.cells #[.slice A ss.length k, .int .i64 hides, .int .i64 drops] 67)).alloc (.cells #[.slice none 0 0, .int .i64 0, .int .i64 0] 124) = W0 at BK2 HB0 ⊢
  refine (HOP.out W0 (Kd.C_below HC.out HB0.out)).mono ?_
  rintro e w1 ⟨rfl, hb1⟩
  have BK1 := Aside0.mk (blk_below BK2.out hb1)
  have HB1 := Aside0.mk (below_step HB0.out hb1)
  have p0 : w1.cell? ⟨w.heap.size + 1, 0, none⟩ = some (.slice none 0 0) := (blk_cell BK1.out 0).trans rfl
  have p1 : w1.cell? ⟨w.heap.size + 1, 1, none⟩ = some (.int .i64 0) := (blk_cell BK1.out 1).trans rfl
  have p2 : w1.cell? ⟨w.heap.size + 1, 2, none⟩ = some (.int .i64 0) := (blk_cell BK1.out 2).trans rfl
  have f0 := blk_frozen BK1.out 0
  have f1 := blk_frozen BK1.out 1
  have f2 := blk_frozen BK1.out 2
  have BKw := Aside0.mk (blk_put3 BK1.out (.slice A ss.length k) (.int .i64 hides) (.int .i64 drops))
  have HBw := Aside0.mk (below_put3 (g := w.heap.size + 1) HB1.out (by omega) (.slice A ss.length k) (.int .i64 hides) (.int .i64 drops))
  clear hb1 BK2 HB0
  go_wp2_with fail
  generalize ((w1.setCell ⟨w.heap.size + 1, 0, none⟩ (.slice A ss.length k)).setCell ⟨w.heap.size + 1, 1, none⟩ (.int .i64 hides)).setCell ⟨w.heap.size + 1, 2, none⟩ (.int .i64 drops) = w2 at BKw HBw ⊢
  have hcf := ContainsFunc_T105 75 #[.pointer (some ⟨w.heap.size + 1, 0, none⟩)] (enters_of Try.func75 (by kernel_rfl) rfl) (fun _ => false) A2 k2 js w2 (by
    intro W x cs hx hW hK
    obtain ⟨A1, c1, rfl, hl1, hC1⟩ := k105_open hK
    exact jobs1_ok ss.length n2 A k hides drops x (HJS.out x hx) A1 c1 _ W hC1 (blk_below BKw.out hW)) (Kd.C_below HJ.out HBw.out)
  have hany : (js.any fun _ => false) = false := by simp
  rw [hany] at hcf
  have HCF := Lib.hid hcf
  clear hcf hany p0 p1 p2 f0 f1 f2 BK1 HB1
  refine HCF.out.mono ?_
  rintro e w3 ⟨rfl, hb3⟩
  have BK3 := Aside0.mk (blk_below BKw.out hb3)
  have HB3 := Aside0.mk (below_step HBw.out hb3)
  clear hb3 BKw HBw HCF
  go_wp2_with fail
  go_loopw [5, 9, 10, 11, 12, 13, 14, 38] (fun s5 _ _ _ _ _ _ s38 wr => ∃ m : Nat, m ≤ js.length ∧ s38 = .int .i64 m ∧ Aside0 ((Kd.slice 61 k61).S 68 wr w.heap.size (fun _ => True) s5 ((js.take m).map (takeOf ss))) ∧ Aside0 (wr.heap[w.heap.size + 1]? = some (.cells #[.slice A ss.length k, .int .i64 hides, .int .i64 drops] 124 (0, 0))) ∧ Aside0 (Below w.heap.size w wr)) (fun _ _ _ _ _ _ _ s38 _ => js.length - (intOf s38).toNat)
  case atStart => exact ⟨0, Nat.zero_le _, rfl, ⟨Kd.S_nil _ _ _ _ _⟩, BK3, HB3⟩
  case round =>
    clear BK3 HB3
    obtain ⟨m, hm, rfl, HV, BK, HB⟩ := hrel
    rename World => wo
    by_cases hlt : m < js.length
    · have hltz : (m : Int) < (js.length : Int) := by omega
      obtain ⟨ad, A1, c1, eA, hc0, hc1, hl1, hC1⟩ := at_T105 (Kd.C_below HJ.out HB.out) (m : Int) (by omega) (by omega)
      have hrd : rd_T105 js (m : Int) = js[m] := getD_at js m _ hlt
      simp only [hrd, Int.toNat_natCast] at hc0 hc1 hl1 hC1
      obtain ⟨jf1, jf2, jl1, jcs⟩ := HJS.out js[m] (List.getElem_mem hlt)
      have ht : (js.take (m + 1)).map (takeOf ss) = (js.take m).map (takeOf ss) ++ [takeOf ss js[m]] := by rw [List.take_succ_eq_append_getElem hlt, List.map_append]; rfl
      have HT := Aside0.mk ht
      have HC1 := Aside0.mk hC1
      subst eA
      clear hrd ht hC1
      generalize js[m] = j at hc0 hc1 hl1 HC1 jf1 jf2 jl1 jcs HT
      have HCT := Lib.hid (fun W hC => count_ok A1 c1 j.f1 jl1 (fun x hx => ⟨(jcs x hx).1, by have := (jcs x hx).2; omega⟩) W hC)
      clear jcs
      obtain ⟨w4, hw4⟩ : ∃ w4, w4 = wo.alloc (.cells #[.int .i64 j.f0, .slice A1 j.f1.length c1] 105) := ⟨_, rfl⟩
      have BX := Aside0.mk (blk_new wo (.cells #[.int .i64 j.f0, .slice A1 j.f1.length c1] 105))
      have HB4 := Aside0.mk (below_alloc (Below.refl wo.heap.size wo) (.cells #[.int .i64 j.f0, .slice A1 j.f1.length c1] 105))
      rw [← hw4] at BX HB4
      go_wp2_with fail
      rw [← hw4]
      clear hw4
      refine (HCT.out w4 (Kd.C_below HC1.out HB4.out)).mono ?_
      rintro e w5 ⟨rfl, hb5⟩
      have BX5 := Aside0.mk (blk_below BX.out hb5)
      have HB5 := Aside0.mk (below_step HB4.out hb5)
      clear hb5 BX HB4 HCT
      have BC := Aside0.mk (blk_new w5 (.cells (cntArr j.f1) 151))
      have BX6 := Aside0.mk (blk_alloc BX5.out (.cells (cntArr j.f1) 151))
      have HB6 := Aside0.mk (below_alloc HB5.out (.cells (cntArr j.f1) 151))
      have BK6 := Aside0.mk (blk_below BK.out HB6.out)
      have hw15 : w.heap.size + 1 < w5.heap.size := blk_lt (blk_below BK.out HB5.out)
      clear BX5 HB5
      unfold cntArr at BC BX6 HB6 BK6 ⊢
      have b0 : (w5.alloc (.cells #[.int .i64 (cnt j.f1 0), .int .i64 (cnt j.f1 1), .int .i64 (cnt j.f1 2), .int .i64 (cnt j.f1 3)] 151)).cell? ⟨w.heap.size + 1, 0, none⟩ = some (.slice A ss.length k) := (blk_cell BK6.out 0).trans rfl
      go_wp2
      generalize w5.alloc (.cells #[.int .i64 (cnt j.f1 0), .int .i64 (cnt j.f1 1), .int .i64 (cnt j.f1 2), .int .i64 (cnt j.f1 3)] 151) = w6 at BC BX6 HB6 BK6 b0 ⊢
      go_loopw [11, 12, 13, 14, 49] (fun s11 _ _ _ s49 wi => ∃ i : Nat, i ≤ ss.length ∧ s49 = .int .i64 i ∧ Aside0 (k61.R 61 wi w6.heap.size (fun _ => True) s11 (takeK ss j i)) ∧ Aside0 (Below w6.heap.size w6 wi)) (fun _ _ _ _ s49 _ => ss.length - (intOf s49).toNat)
      case atStart => exact ⟨0, Nat.zero_le _, rfl, ⟨Kd.R_nil _ _ _ _ _⟩, ⟨Below.refl _ _⟩⟩
      case round =>
        obtain ⟨i, hi, rfl, HR, HBi⟩ := hrel
        rename World => wi
        by_cases hlti : i < ss.length
        · have hltiz : (i : Int) < (ss.length : Int) := by omega
          have HBw := Aside0.mk (below_step (below_step HB.out HB6.out) HBi.out)
          obtain ⟨ad2, eA2, y0, y1, y2, y3, y4⟩ := at_T64 (Kd.C_below HC.out HBw.out) (i : Int) (by omega) (by omega)
          have hrd : rd_T64 ss (i : Int) = ss[i] := getD_at ss i _ hlti
          simp only [hrd, Int.toNat_natCast] at y0 y1 y2 y3 y4
          subst eA2
          have hsl := HSL.out ss[i] (List.getElem_mem hlti)
          have htk := takeK_succ ss j i hlti
          clear hrd
          generalize ss[i] = s at y0 y1 y2 y3 y4 hsl htk
          obtain ⟨⟨tl, th⟩, ⟨ol, oh⟩, pe⟩ := s
          have o1 := hsl.o1
          have o2 := hsl.o2
          have o3 := hsl.o3
          clear hsl
          simp only at y0 y1 y2 y3 y4 o1 o2 o3 htk
          have BCi := blk_below BC.out HBi.out
          have BXi := blk_below BX6.out HBi.out
          have z0 : wi.cell? ⟨wo.heap.size, 0, none⟩ = some (.int .i64 j.f0) := (blk_cell BXi 0).trans rfl
          have zc : wi.cell? ⟨w5.heap.size, i, none⟩ = some (.int .i64 (cnt j.f1 (i : Int))) := by
            have := (blk_cell BCi i).trans (by have := cntArr_at j.f1 (i : Int) (by omega) (by omega); simpa [cntArr] using this)
            exact this
          have hcl := cnt_le j.f1 (i : Int)
          generalize cnt j.f1 (i : Int) = cn at zc htk hcl
          obtain ⟨n, hn⟩ : ∃ n : Int, n = (cn : Int) * j.f0 := ⟨_, rfl⟩
          have hnb : 0 ≤ n ∧ n ≤ 1600 := by rw [hn]; exact mul_small (m := 8) (n := 200) (by omega) (by omega) (by omega) (by omega)
          have hwn : IntKind.i64.wrap ((cn : Int) * j.f0) = n := by rw [IntKind.wrap_i64, ← hn]; omega
          rw [← hn] at htk
          obtain ⟨p, hp⟩ : ∃ p : Int, p = n * ol := ⟨_, rfl⟩
          have hpb : 0 ≤ p ∧ p ≤ 32000 := by rw [hp]; exact mul_small (m := 1600) (n := 20) hnb.1 hnb.2 o1 (by omega)
          have hwp : IntKind.i64.wrap (n * ol) = p := by rw [IntKind.wrap_i64, ← hp]; omega
          obtain ⟨q, hq⟩ : ∃ q : Int, q = n * oh := ⟨_, rfl⟩
          have hqb : 0 ≤ q ∧ q ≤ 32000 := by rw [hq]; exact mul_small (m := 1600) (n := 20) hnb.1 hnb.2 (by omega) o3
          have hwq : IntKind.i64.wrap (n * oh) = q := by rw [IntKind.wrap_i64, ← hq]; omega
          rw [← hp, ← hq] at htk
          have HTK := Aside0.mk htk
          clear htk hn hp hq
          obtain ⟨w7, hw7⟩ : ∃ w7, w7 = wi.alloc (.cells #[.int .i64 tl, .int .i64 th, .int .i64 ol, .int .i64 oh, .int .i64 pe] 64) := ⟨_, rfl⟩
          have HB7 := Aside0.mk (below_alloc (Below.refl wi.heap.size wi) (.cells #[.int .i64 tl, .int .i64 th, .int .i64 ol, .int .i64 oh, .int .i64 pe] 64))
          have BS := Aside0.mk (blk_new wi (.cells #[.int .i64 tl, .int .i64 th, .int .i64 ol, .int .i64 oh, .int .i64 pe] 64))
          rw [← hw7] at HB7 BS
          have z07 : w7.cell? ⟨wo.heap.size, 0, none⟩ = some (.int .i64 j.f0) := (HB7.out.cell (World.block_lt_of_cell? _ _ z0)).trans z0
          have zc7 : w7.cell? ⟨w5.heap.size, i, none⟩ = some (.int .i64 cn) := (HB7.out.cell (World.block_lt_of_cell? _ _ zc)).trans zc
          have s2 : w7.cell? ⟨wi.heap.size, 2, none⟩ = some (.int .i64 ol) := (blk_cell BS.out 2).trans rfl
          have s3 : w7.cell? ⟨wi.heap.size, 3, none⟩ = some (.int .i64 oh) := (blk_cell BS.out 3).trans rfl
          have hi4 : (i : Int) < 4 := by omega
          go_wp2_with fail
          rw [← hw7]
          clear hw7 z0 zc y0 y1 y2 y3 y4 BCi BXi
          go_quiet (fail)
          have HB8 := Aside0.mk (below_step HBi.out (pw_below_drewN HB7.out nq))
          have HR8 := Aside0.mk (Kd.R_below HR.out (pw_below_drewN HB7.out nq))
          have s28 : (w7.drewN nq).cell? ⟨wi.heap.size, 2, none⟩ = some (.int .i64 ol) := s2
          have s38 : (w7.drewN nq).cell? ⟨wi.heap.size, 3, none⟩ = some (.int .i64 oh) := s3
          generalize w7.drewN nq = w8 at HB8 HR8 s28 s38 ⊢
          have h68 := HB8.out.size
          have hkl := takeK_length ss j i hi
          clear s2 s3 z07 zc7 BS HB7
          go_wp2_with (at_builtin; refine Kd.R_append k61 (w0 := w6) w6.heap.size rfl (.tmp 60) (.tmp 72) 68 61 (.agg #[.int .i64 0, .int .i64 0]) 16 rfl Try.underlying68 infoSpan rfl (by decide) (by decide) u11 (takeK ss j i) ⟨p, q⟩ [.int .i64 p, .int .i64 q] (fun _ => True) (fun _ => False) rfl rfl (k61_mkM _ _ _ _) (fun _ hk_ => hk_.elim) (fun _ _ => trivial) HR8.out HB8.out h68 (by omega) ?_; intro v1 w9 ho hb _ _; have HR9 := Aside0.mk ho; have HB9 := Aside0.mk hb; clear ho hb)
          go_roundw
          case rel => exact ⟨i + 1, by omega, by go_num, by rw [HTK.out]; exact HR9, HB9⟩
          case measure => simp [intOf]; omega
        · obtain rfl : i = ss.length := by omega
          have hltiz : ¬ (ss.length : Int) < (ss.length : Int) := by omega
          obtain ⟨A11, c11, e11⟩ := Kd.R_slice HR.out
          rw [takeK_length ss j ss.length (Nat.le_refl _)] at e11
          subst e11
          have HRl : Aside0 (k61.R 61 wi w6.heap.size (fun _ => True) (.slice A11 ss.length c11) (takeOf ss j)) := HR
          have HB6i := Aside0.mk (below_step HB6.out HBi.out)
          have HBw := Aside0.mk (below_step HB.out HB6i.out)
          have BKi := Aside0.mk (blk_below BK.out HB6i.out)
          have HVi := Aside0.mk (Kd.S_old HV.out HB6i.out)
          have hw6 := HB6.out.size
          have hwo := HB.out.size
          have hwi := HBw.out.size
          have HSb := Aside0.mk (Kd.S_mono HVi.out (ok' := fun k_ => True ∧ ¬ wo.heap.size ≤ k_) (fun k_ hk_ => ⟨trivial, by have := hk_.2; omega⟩))
          have HM := Aside0.mk (Kd.R_lower (Kd.R_mono (Kd.R_bound HRl.out) (ok' := fun k_ => wo.heap.size ≤ k_) (fun k_ hk_ => Nat.le_trans hw6 hk_.2.1)) (base' := w.heap.size) (by omega))
          have hvl := Kd.S_lt HV.out
          have hlm : ((js.take m).map (takeOf ss)).length = m := by rw [List.length_map, List.length_take]; omega
          have HTY := Aside0.mk (Kd.S_ne HVi.out BKi.out (by decide))
          clear BC BX6 HB6 BK6 HR HBi HV HB BK
          go_wp2_with (at_builtin; refine Kd.S_append (Kd.slice 61 k61) (w0 := w) w.heap.size rfl (.tmp 75) (.tmp 77) 125 68 (.slice none 0 0) 24 rfl Try.underlying125 infoSpans rfl (by decide) (by decide) u5 ((js.take m).map (takeOf ss)) (takeOf ss j) [.slice A11 ss.length c11] (fun _ => True) (fun k_ => wo.heap.size ≤ k_) rfl rfl ⟨_, rfl, HM.out⟩ (fun k_ hk_ => ⟨trivial, fun e_ => by have := hvl k_ e_.symm; omega⟩) (fun _ _ => trivial) HSb.out HBw.out hwi (by omega) ?_; intro v1 w9 ho hb hg _; have HS9 := Aside0.mk ho; have HB9 := Aside0.mk hb; have BK9 := Aside0.mk (blk_grown BKi.out hg HTY.out); clear ho hb hg)
          go_roundw
          case rel => exact ⟨m + 1, by omega, by go_num, by rw [HT.out]; exact HS9, BK9, HB9⟩
          case measure => simp [intOf]; omega
    · obtain rfl : m = js.length := by omega
      have hltz : ¬ (js.length : Int) < (js.length : Int) := by omega
      have hv := HV.out
      rw [List.take_length] at hv
      have HVl := Aside0.mk hv
      have p0 : wo.cell? ⟨w.heap.size + 1, 0, none⟩ = some (.slice A ss.length k) := (blk_cell BK.out 0).trans rfl
      have p1 : wo.cell? ⟨w.heap.size + 1, 1, none⟩ = some (.int .i64 hides) := (blk_cell BK.out 1).trans rfl
      have p2 : wo.cell? ⟨w.heap.size + 1, 2, none⟩ = some (.int .i64 drops) := (blk_cell BK.out 2).trans rfl
      have f0 := blk_frozen BK.out 0
      have f1 := blk_frozen BK.out 1
      have f2 := blk_frozen BK.out 2
      clear hv HV
      go_wp2
      refine bodyPost_ret (results_ctt rfl _ _ (w.heap.size + 1) _ _ (0, 0) _ rfl (blk_put3 BK.out (.slice A ss.length k) (.int .i64 hides) (.int .i64 drops)) Try.underlying124 rfl (by kernel_rfl)) rfl ?_
      exact ⟨_, rfl, S_put3 HVl.out BK.out (by decide) _ _ _, below_put3 HB.out (by omega) _ _ _⟩
end Go.Proofs.Ytfbndhhogpacmaa
/-! coat.Uses. -/
namespace Go.Proofs.Ytfbndhhogpacmaa
open Go.RowKit Go.Shelf
open Go.Proofs.YtfbndhhogpacmaaW.PrintWords Go.Proofs.Ytfbndhhogpacmaa.T
set_option linter.unusedVariables false
set_option linter.unusedSimpArgs false
def loOf (ss : List S64) (i : Nat) (j : S105) : Int := (cnt j.f1 (i : Int) : Int) * j.f0 * (ss.getD i z64).f1.f0
def hiOf (ss : List S64) (i : Nat) (j : S105) : Int := (cnt j.f1 (i : Int) : Int) * j.f0 * (ss.getD i z64).f1.f1
theorem takeK_eq (ss : List S64) (j : S105) (k : Nat) (hk : k ≤ ss.length) : takeK ss j k = (List.range k).map fun i => ⟨loOf ss i j, hiOf ss i j⟩ := by
  induction k with
  | zero => rfl
  | succ k ih =>
    rw [takeK_succ _ _ _ (by omega), ih (by omega), List.range_succ, List.map_append]
    simp only [List.map_cons, List.map_nil, loOf, hiOf]
    rw [getD_at ss k _ (by omega)]
theorem cnt_le8 {n : Nat} {j : S105} (h : OkJob n j) (x : Int) : cnt j.f1 x ≤ 8 := Nat.le_trans (cnt_le _ _) h.l1
theorem loOf_b (ss : List S64) (hs : ∀ s ∈ ss, OkSlip s) (i : Nat) (hi : i < ss.length) (j : S105) (hj : OkJob ss.length j) : 0 ≤ loOf ss i j ∧ loOf ss i j ≤ 32000 := by
  have h := hs ss[i] (List.getElem_mem hi)
  have h8 := cnt_le8 hj (i : Int)
  have h1 := hj.f1
  have h2 := hj.f2
  have n1 : 0 ≤ (cnt j.f1 (i : Int) : Int) * j.f0 ∧ (cnt j.f1 (i : Int) : Int) * j.f0 ≤ 1600 := mul_small (m := 8) (n := 200) (by omega) (by omega) (by omega) (by omega)
  unfold loOf
  rw [getD_at ss i _ hi]
  exact mul_small (m := 1600) (n := 20) n1.1 n1.2 h.o1 (by have := h.o2; have := h.o3; omega)
theorem hiOf_b (ss : List S64) (hs : ∀ s ∈ ss, OkSlip s) (i : Nat) (hi : i < ss.length) (j : S105) (hj : OkJob ss.length j) : 0 ≤ hiOf ss i j ∧ hiOf ss i j ≤ 32000 := by
  have h := hs ss[i] (List.getElem_mem hi)
  have h8 := cnt_le8 hj (i : Int)
  have h1 := hj.f1
  have h2 := hj.f2
  have n1 : 0 ≤ (cnt j.f1 (i : Int) : Int) * j.f0 ∧ (cnt j.f1 (i : Int) : Int) * j.f0 ≤ 1600 := mul_small (m := 8) (n := 200) (by omega) (by omega) (by omega) (by omega)
  unfold hiOf
  rw [getD_at ss i _ hi]
  exact mul_small (m := 1600) (n := 20) n1.1 n1.2 (by have := h.o1; have := h.o2; omega) h.o3
def sumLo (ss : List S64) (js : List S105) (i : Nat) : Int := (js.map (loOf ss i)).sum
def sumHi (ss : List S64) (js : List S105) (i : Nat) : Int := (js.map (hiOf ss i)).sum
theorem sum_b {α : Type} (f : α → Int) (l : List α) (h : ∀ x ∈ l, 0 ≤ f x ∧ f x ≤ 32000) : 0 ≤ (l.map f).sum ∧ (l.map f).sum ≤ 32000 * (l.length : Int) := by
  induction l with
  | nil => simp
  | cons x r ih =>
    have h1 := h x List.mem_cons_self
    have h2 := ih (fun y hy => h y (List.mem_cons_of_mem _ hy))
    rw [List.map_cons, List.sum_cons, List.length_cons]
    omega
theorem sum_snoc {α : Type} (f : α → Int) (l : List α) (x : α) : ((l ++ [x]).map f).sum = (l.map f).sum + f x := by simp
/-- What jobs take. -/
def usesOf (ss : List S64) (js : List S105) : List S61 := (List.range ss.length).map fun i => ⟨sumLo ss js i, sumHi ss js i⟩
def mixOf (ss : List S64) (js : List S105) (j : S105) (i : Nat) : List S61 := (List.range ss.length).map fun t => if t < i then ⟨sumLo ss js t + loOf ss t j, sumHi ss js t + hiOf ss t j⟩ else ⟨sumLo ss js t, sumHi ss js t⟩
theorem mix_zero (ss : List S64) (js : List S105) (j : S105) : mixOf ss js j 0 = usesOf ss js := by simp [mixOf, usesOf]
theorem mix_all (ss : List S64) (js : List S105) (j : S105) : mixOf ss js j ss.length = usesOf ss (js ++ [j]) := by
  unfold mixOf usesOf
  apply List.map_congr_left
  intro t ht
  rw [List.mem_range] at ht
  rw [if_pos ht]
  unfold sumLo sumHi
  rw [sum_snoc, sum_snoc]
theorem mix_length (ss : List S64) (js : List S105) (j : S105) (i : Nat) : (mixOf ss js j i).length = ss.length := by simp [mixOf]
theorem mix_at (ss : List S64) (js : List S105) (j : S105) (i : Nat) (hi : i < ss.length) (z : S61) : (mixOf ss js j i).getD i z = ⟨sumLo ss js i, sumHi ss js i⟩ := by
  rw [getD_at _ _ _ (by rw [mix_length]; exact hi)]
  simp [mixOf]
theorem mix_step (ss : List S64) (js : List S105) (j : S105) (i : Nat) (hi : i < ss.length) (y : S61) : ((mixOf ss js j i).set i y).set i ⟨sumLo ss js i + loOf ss i j, sumHi ss js i + hiOf ss i j⟩ = mixOf ss js j (i + 1) := by
  rw [List.set_set]
  apply List.ext_getElem
  · rw [List.length_set, mix_length, mix_length]
  · intro t h1 h2
    rw [List.getElem_set]
    have ht : t < ss.length := by rw [mix_length] at h2; exact h2
    by_cases e : i = t
    · subst e
      simp [mixOf]
    · rw [if_neg e]
      simp only [mixOf, List.getElem_map, List.getElem_range]
      by_cases h : t < i
      · rw [if_pos h, if_pos (by omega)]
      · rw [if_neg h, if_neg (by omega)]
theorem at_spans {w : World} {A : Option Addr} {n : Nat} {xs : List (List S61)} (h : Kd.C (Kd.slice 61 k61) w A n xs) (i : Nat) (hi : i < n) : ∃ ad A0 c0, A = some ad ∧ w.cell? (ad.add i) = some (.slice A0 (xs.getD i []).length c0) ∧ k61.C w A0 (xs.getD i []).length (xs.getD i []) := by
  obtain ⟨ad, c, e, _, hK, hc⟩ := Kd.C_get h ([] : List S61) (i : Int) (by omega) (by omega)
  obtain ⟨A0, c0, rfl, l, g⟩ := hK
  have := hc 0 _ rfl
  have hs : (Kd.slice 61 k61).sz = 1 := rfl
  rw [hs] at this
  exact ⟨ad, A0, c0, e, by simpa using this, g⟩
section
variable {W : World} {base g n cap : Nat} {ok : Nat → Prop} {xs : List S61}
theorem span_cells (h : k61.R 61 W base ok (.slice (some ⟨g, 0, none⟩) n cap) xs) (i : Nat) (hi : i < n) : W.cell? ⟨g, i * 2, none⟩ = some (.int .i64 (xs.getD i z61).f0) ∧ W.cell? ⟨g, i * 2 + 1, none⟩ = some (.int .i64 (xs.getD i z61).f1) ∧ W.frozen? ⟨g, i * 2, none⟩ = false ∧ W.frozen? ⟨g, i * 2 + 1, none⟩ = false := by
  obtain ⟨c, hcl, hM, hcc, hf⟩ := Kd.R_elem h z61 (i : Int) (by omega) (by omega)
  obtain rfl := k61_openM hM
  exact ⟨hcc 0 _ rfl, hcc 1 _ rfl, hf 0, hf 1⟩
theorem span_lo (h : k61.R 61 W base ok (.slice (some ⟨g, 0, none⟩) n cap) xs) (i : Nat) (hi : i < n) (x : Int) : k61.R 61 (W.setCell ⟨g, i * 2, none⟩ (.int .i64 x)) base ok (.slice (some ⟨g, 0, none⟩) n cap) (xs.set i ⟨x, (xs.getD i z61).f1⟩) := by
  obtain ⟨c, hcl, hM, hcc, hf⟩ := Kd.R_elem h z61 (i : Int) (by omega) (by omega)
  obtain rfl := k61_openM hM
  exact (Kd.R_seg h (i : Int) (by omega) (by omega) hcl hcc (j := 0) (seg := [.int .i64 x]) (by show 0 + 1 ≤ 2; omega) (x' := ⟨x, (xs.getD i z61).f1⟩) (okp := fun _ => False) (k61_mkM _ _ _ _) (fun _ hk => hk.elim)).1
theorem span_hi (h : k61.R 61 W base ok (.slice (some ⟨g, 0, none⟩) n cap) xs) (i : Nat) (hi : i < n) (x : Int) : k61.R 61 (W.setCell ⟨g, i * 2 + 1, none⟩ (.int .i64 x)) base ok (.slice (some ⟨g, 0, none⟩) n cap) (xs.set i ⟨(xs.getD i z61).f0, x⟩) := by
  obtain ⟨c, hcl, hM, hcc, hf⟩ := Kd.R_elem h z61 (i : Int) (by omega) (by omega)
  obtain rfl := k61_openM hM
  exact (Kd.R_seg h (i : Int) (by omega) (by omega) hcl hcc (j := 1) (seg := [.int .i64 x]) (by show 1 + 1 ≤ 2; omega) (x' := ⟨(xs.getD i z61).f0, x⟩) (okp := fun _ => False) (k61_mkM _ _ _ _) (fun _ hk => hk.elim)).1
end
end Go.Proofs.Ytfbndhhogpacmaa
/-! coat.Uses: the walk. -/
namespace Go.Proofs.Ytfbndhhogpacmaa
open Go.RowKit Go.Shelf
open Go.Proofs.YtfbndhhogpacmaaW.PrintWords Go.Proofs.Ytfbndhhogpacmaa.T
set_option linter.unusedVariables false
set_option linter.unusedSimpArgs false
set_option maxRecDepth 100000 in
set_option maxHeartbeats 4000000 in
theorem Uses_ok (A A2 : Option Addr) (k k2 : Nat) (ss : List S64) (hides drops : Int) (ok : OkWorks ss hides drops) (js : List S105) (hjs : ∀ j ∈ js, OkJob ss.length j) (hlen : js.length ≤ 6) (w : World) (hC : k64.C w A ss.length ss) (hJ : k105.C w A2 js.length js) :
    Calls Try.prog 42 #[.agg #[.slice A ss.length k, .int .i64 hides, .int .i64 drops], .slice A2 js.length k2] w fun e w' => ∃ v, e = .returned (.tuple #[v, .int .i64 0]) ∧ k61.R 61 w' w.heap.size (fun _ => True) v (usesOf ss js) ∧ Below w.heap.size w w' := by
  have n1 := ok.n1
  have n2 := ok.n2
  have HJB := Lib.hid (fun W hC hJ => jobs_ok A A2 k k2 ss hides drops ok js hjs hlen W hC hJ)
  have HLO := Aside0.mk (fun i hi j hj => loOf_b ss ok.sl i hi j (hjs j hj))
  have HHI := Aside0.mk (fun i hi j hj => hiOf_b ss ok.sl i hi j (hjs j hj))
  have HC := Aside0.mk hC
  have HJ := Aside0.mk hJ
  clear ok hC hJ hjs
  go_enter Try.func42, Try.ntmps42
  go_wp2_with fail
  have HB0 := Aside0.mk (below_alloc (Below.refl w.heap.size w) (.cells #[.slice A ss.length k, .int .i64 hides, .int .i64 drops] 67))
  refine (HJB.out _ (Kd.C_below HC.out HB0.out) (Kd.C_below HJ.out HB0.out)).mono ?_
  rintro e w1 ⟨v, rfl, hS, hb1⟩
  obtain ⟨A7, c7, rfl⟩ := Kd.S_slice hS
  have hC7 := (Kd.S_reads' hS).2.2
  rw [List.length_map] at hC7 ⊢
  have HC7 := Aside0.mk hC7
  have HB1 := Aside0.mk (below_step HB0.out hb1)
  clear hS hb1 hC7 HB0
  obtain ⟨w2, hw2⟩ : ∃ w2, w2 = w1.alloc (.cells #[.slice A ss.length k, .int .i64 hides, .int .i64 drops] 124) := ⟨_, rfl⟩
  have HB2 := Aside0.mk (below_alloc HB1.out (.cells #[.slice A ss.length k, .int .i64 hides, .int .i64 drops] 124))
  have HB12 := Aside0.mk (below_alloc (Below.refl w1.heap.size w1) (.cells #[.slice A ss.length k, .int .i64 hides, .int .i64 drops] 124))
  have HC72 := Aside0.mk (Kd.C_alloc HC7.out (.cells #[.slice A ss.length k, .int .i64 hides, .int .i64 drops] 124))
  have BK2 := Aside0.mk (blk_new w1 (.cells #[.slice A ss.length k, .int .i64 hides, .int .i64 drops] 124))
  rw [← hw2] at HB2 HB12 HC72 BK2
  have b0 : w2.cell? ⟨w1.heap.size, 0, none⟩ = some (.slice A ss.length k) := (blk_cell BK2.out 0).trans rfl
  have h02 := HB2.out.size
  go_wp2_with (first | ((with_reducible refine gate_dst (N := 28) rfl ?_); rw [← hw2]; refine Kd.R_make k61 (w0 := w2) w2.heap.size 61 rfl (N := 28) rfl 68 (.tmp 27) (.tmp 27) rfl (ss.length : Int) rfl rfl Try.underlying68 (.agg #[.int .i64 0, .int .i64 0]) 16 infoSpan rfl (by decide) (by decide) ⟨0, 0⟩ (ok := fun _ => True) (okp := fun _ => False) (k61_mkM _ _ _ _) (fun _ h_ => h_.elim) trivial (by omega) (by simp; omega) (Below.refl _ _) (Nat.le_refl _) ?_; intro v3 w3 hv hb _ _; have HV3 := Aside0.mk hv; have HB3 := Aside0.mk hb; clear hv hb))
  obtain ⟨g, cap, rfl, hg0, hg1, _⟩ := Kd.R_form HV3.out (by simp; omega)
  rw [List.length_replicate, Int.toNat_natCast] at HV3 ⊢
  have hu0 : List.replicate ss.length (⟨0, 0⟩ : S61) = usesOf ss [] := by
    apply List.ext_getElem
    · simp [usesOf]
    · intro i h1 h2
      simp [usesOf, sumLo, sumHi]
  rw [hu0] at HV3
  clear hu0 hw2
  have HC73 := Aside0.mk (Kd.C_below HC72.out HB3.out)
  go_loopw [11, 12, 13, 31] (fun _ _ _ s31 wr => ∃ m : Nat, m ≤ js.length ∧ s31 = .int .i64 m ∧ Aside0 (k61.R 61 wr w2.heap.size (fun _ => True) (.slice (some ⟨g, 0, none⟩) ss.length cap) (usesOf ss (js.take m))) ∧ Aside0 (Below w2.heap.size w2 wr)) (fun _ _ _ s31 _ => js.length - (intOf s31).toNat)
  case atStart => exact ⟨0, Nat.zero_le _, rfl, HV3, HB3⟩
  case round =>
    clear HV3 HB3
    obtain ⟨m, hm, rfl, HV, HB⟩ := hrel
    rename World => wo
    by_cases hlt : m < js.length
    · have hltz : (m : Int) < (js.length : Int) := by omega
      obtain ⟨ad, A0, c0, eA, hcell2, hCt⟩ := at_spans HC72.out m hlt
      have hcell := (HB.out.cell (World.block_lt_of_cell? _ _ hcell2)).trans hcell2
      clear hcell2
      have hgd : (js.map (takeOf ss)).getD m [] = takeOf ss js[m] := by rw [getD_at _ _ _ (by rw [List.length_map]; exact hlt), List.getElem_map]
      rw [hgd] at hcell hCt
      have hlo := fun i hi => HLO.out i hi js[m] (List.getElem_mem hlt)
      have hhi := fun i hi => HHI.out i hi js[m] (List.getElem_mem hlt)
      have hjm : ∀ x ∈ js.take m, x ∈ js := fun x hx => List.mem_of_mem_take hx
      have hslo : ∀ i, i < ss.length → 0 ≤ sumLo ss (js.take m) i ∧ sumLo ss (js.take m) i ≤ 192000 := fun i hi => by
        have := sum_b (loOf ss i) (js.take m) (fun x hx => HLO.out i hi x (hjm x hx))
        rw [List.length_take] at this
        unfold sumLo
        omega
      have hshi : ∀ i, i < ss.length → 0 ≤ sumHi ss (js.take m) i ∧ sumHi ss (js.take m) i ≤ 192000 := fun i hi => by
        have := sum_b (hiOf ss i) (js.take m) (fun x hx => HHI.out i hi x (hjm x hx))
        rw [List.length_take] at this
        unfold sumHi
        omega
      have ht : js.take (m + 1) = js.take m ++ [js[m]] := List.take_succ_eq_append_getElem hlt
      have HT := Aside0.mk ht
      subst eA
      clear hgd ht hjm
      generalize js[m] = j at hcell hCt hlo hhi HT
      have hlen58 : (takeOf ss j).length = ss.length := takeK_length ss j ss.length (Nat.le_refl _)
      have htq := takeK_eq ss j ss.length (Nat.le_refl _)
      change takeOf ss j = _ at htq
      rw [hlen58] at hcell hCt
      have HCt := Aside0.mk hCt
      have HSLO := Aside0.mk hslo
      have HSHI := Aside0.mk hshi
      have HLOJ := Aside0.mk hlo
      have HHIJ := Aside0.mk hhi
      have HTQ := Aside0.mk htq
      clear hCt hslo hshi hlo hhi htq hlen58
      go_wp2
      go_loopw [12, 13, 37] (fun _ _ s37 wi => ∃ i : Nat, i ≤ ss.length ∧ s37 = .int .i64 i ∧ Aside0 (k61.R 61 wi w2.heap.size (fun _ => True) (.slice (some ⟨g, 0, none⟩) ss.length cap) (mixOf ss (js.take m) j i)) ∧ Aside0 (Below w2.heap.size w2 wi)) (fun _ _ s37 _ => ss.length - (intOf s37).toNat)
      case atStart => exact ⟨0, Nat.zero_le _, rfl, by rw [mix_zero]; exact HV, HB⟩
      case round =>
        clear HV HB hcell
        obtain ⟨i, hi, rfl, HV, HB⟩ := hrel
        rename World => wi
        by_cases hlti : i < ss.length
        · have hltiz : (i : Int) < (ss.length : Int) := by omega
          obtain ⟨ad2, eA2, y0, y1⟩ := at_T61 (Kd.C_below HCt.out HB.out) (i : Int) (by omega) (by omega)
          have hrd : rd_T61 (takeOf ss j) (i : Int) = ⟨loOf ss i j, hiOf ss i j⟩ := by
            unfold rd_T61
            rw [HTQ.out, List.getD_eq_getElem?_getD, Int.toNat_natCast, List.getElem?_map, List.getElem?_range hlti]
            rfl
          simp only [hrd, Int.toNat_natCast] at y0 y1
          subst eA2
          obtain ⟨c0', c1', f0, f1⟩ := span_cells HV.out i hlti
          rw [mix_at ss (js.take m) j i hlti] at c0' c1'
          simp only at c0' c1'
          have b1 := HLOJ.out i hlti
          have b2 := HHIJ.out i hlti
          have b3 := HSLO.out i hlti
          have b4 := HSHI.out i hlti
          have hst := mix_step ss (js.take m) j i hlti
          have hma := mix_at ss (js.take m) j i hlti z61
          have hml := mix_length ss (js.take m) j i
          clear hrd
          generalize loOf ss i j = lo at y0 b1 hst
          generalize hiOf ss i j = hi' at y1 b2 hst
          generalize sumLo ss (js.take m) i = sl at c0' b3 hst hma
          generalize sumHi ss (js.take m) i = sh at c1' b4 hst hma
          have HST := Aside0.mk hst
          have HMA := Aside0.mk hma
          clear hst hma
          obtain ⟨w7, hw7⟩ : ∃ w7, w7 = wi.alloc (.cells #[.int .i64 lo, .int .i64 hi'] 61) := ⟨_, rfl⟩
          have HB7 := Aside0.mk (below_alloc HB.out (.cells #[.int .i64 lo, .int .i64 hi'] 61))
          have HB70 := Aside0.mk (below_alloc (Below.refl wi.heap.size wi) (.cells #[.int .i64 lo, .int .i64 hi'] 61))
          have BS := Aside0.mk (blk_new wi (.cells #[.int .i64 lo, .int .i64 hi'] 61))
          have HV7 := Aside0.mk (Kd.R_alloc HV.out (.cells #[.int .i64 lo, .int .i64 hi'] 61))
          rw [← hw7] at HB7 HB70 BS HV7
          have hgi : g < wi.heap.size := World.block_lt_of_cell? _ _ c0'
          have u0 : w7.cell? ⟨g, i * 2, none⟩ = some (.int .i64 sl) := (HB70.out.cell (p := ⟨g, i * 2, none⟩) hgi).trans c0'
          have u1 : w7.cell? ⟨g, i * 2 + 1, none⟩ = some (.int .i64 sh) := (HB70.out.cell (p := ⟨g, i * 2 + 1, none⟩) hgi).trans c1'
          obtain ⟨_, _, v0, v1⟩ := span_cells HV7.out i hlti
          have x0 : w7.cell? ⟨wi.heap.size, 0, none⟩ = some (.int .i64 lo) := (blk_cell BS.out 0).trans rfl
          have x1 : w7.cell? ⟨wi.heap.size, 1, none⟩ = some (.int .i64 hi') := (blk_cell BS.out 1).trans rfl
          have hg7 : g ≠ wi.heap.size := by omega
          have hwlo : IntKind.i64.wrap (sl + lo) = sl + lo := by rw [IntKind.wrap_i64]; omega
          have hwhi : IntKind.i64.wrap (sh + hi') = sh + hi' := by rw [IntKind.wrap_i64]; omega
          go_wp2_with fail
          rw [← hw7]
          clear hw7 HB70 c0' c1' f0 f1 y0 y1
          go_region
          have hv8 := span_lo HV7.out i hlti (sl + lo)
          rw [HMA.out] at hv8
          have HV8 := Aside0.mk (Kd.R_drew hv8)
          have HB8 : Aside0 (Below w2.heap.size w2 (w7.setCell ⟨g, i * 2, none⟩ (.int .i64 (sl + lo))).drew) := ⟨(HB7.out.setCell hg0 _).drew⟩
          have BS8 : Aside0 ((w7.setCell ⟨g, i * 2, none⟩ (.int .i64 (sl + lo))).drew.heap[wi.heap.size]? = some (.cells #[.int .i64 lo, .int .i64 hi'] 61 (0, 0))) := ⟨blk_far BS.out (p := ⟨g, i * 2, none⟩) (by show wi.heap.size ≠ g; omega) _⟩
          clear hv8
          go_wp2_with fail
          generalize (w7.setCell ⟨g, i * 2, none⟩ (.int .i64 (sl + lo))).drew = w8 at HV8 HB8 BS8 ⊢
          clear u0 u1 v0 v1 x0 x1 HV7 HB7 BS hwlo
          obtain ⟨u0, u1, v0, v1⟩ := span_cells HV8.out i hlti
          have hset : (((mixOf ss (js.take m) j i).set i ⟨sl + lo, (⟨sl, sh⟩ : S61).f1⟩).getD i z61) = ⟨sl + lo, sh⟩ := by
            rw [getD_at _ _ _ (by rw [List.length_set, hml]; exact hlti), List.getElem_set_self]
          rw [hset] at u0 u1
          simp only at u0 u1
          have x1 : w8.cell? ⟨wi.heap.size, 1, none⟩ = some (.int .i64 hi') := (blk_cell BS8.out 1).trans rfl
          go_region
          have hv9 := span_hi HV8.out i hlti (sh + hi')
          rw [hset] at hv9
          simp only at hv9
          rw [HST.out] at hv9
          have HV9 := Aside0.mk (Kd.R_drew hv9)
          have HB9 : Aside0 (Below w2.heap.size w2 (w8.setCell ⟨g, i * 2 + 1, none⟩ (.int .i64 (sh + hi'))).drew) := ⟨(HB8.out.setCell hg0 _).drew⟩
          clear hv9 hset
          go_wp2
          go_roundw
          case rel => exact ⟨i + 1, by omega, by go_num, HV9, HB9⟩
          case measure => simp [intOf]; omega
        · obtain rfl : i = ss.length := by omega
          have hltiz : ¬ (ss.length : Int) < (ss.length : Int) := by omega
          have hv := HV.out
          rw [mix_all, ← HT.out] at hv
          have HVn := Aside0.mk hv
          clear hv
          go_wp2
          go_roundw
          case rel => exact ⟨m + 1, by omega, by go_num, HVn, HB⟩
          case measure => simp [intOf]; omega
    · obtain rfl : m = js.length := by omega
      have hltz : ¬ (js.length : Int) < (js.length : Int) := by omega
      have hv := HV.out
      rw [List.take_length] at hv
      have HVl := Aside0.mk (Kd.R_lower hv h02)
      have HBl := Aside0.mk (below_step HB2.out HB.out)
      go_wp2
      go_ret2
      exact ⟨_, rfl, HVl.out, HBl.out⟩
end Go.Proofs.Ytfbndhhogpacmaa
/-! file.Year. -/
namespace Go.Proofs.Ytfbndhhogpacmaa
open Go.RowKit Go.Shelf
open Go.Proofs.YtfbndhhogpacmaaW.PrintWords Go.Proofs.Ytfbndhhogpacmaa.T
set_option linter.unusedVariables false
set_option linter.unusedSimpArgs false
def jobOf (x : S72) : S105 := ⟨x.f2, x.f3⟩
/-- A sign that is valid. -/
structure OkSign (m n : Nat) (x : S72) : Prop where
  st1 : 0 ≤ x.f0
  st2 : x.f0 < m
  la1 : 0 ≤ x.f1
  la2 : x.f1 ≤ 1000
  jb : OkJob n (jobOf x)
/-- A row of cells that read as elements. -/
theorem C_of_raw {α : Type} {d : Kd α} {w : World} {A : Option Addr} {raws : List (List Value)} {xs : List α} (h : (Kd.raw d.sz).C w A raws.length raws) (hl : xs.length = raws.length) (hK : ∀ (j : Nat) (r : List Value) (p : α), raws[j]? = some r → xs[j]? = some p → d.K w p r) : d.C w A xs.length xs := by
  obtain ⟨h1, h2, h3⟩ := h
  refine ⟨rfl, by rw [hl]; exact h2, fun hp => ?_⟩
  obtain ⟨ad, e, hc⟩ := h3 (by omega)
  refine ⟨ad, e, fun j p hj => ?_⟩
  have hjl : j < raws.length := by
    rcases Nat.lt_or_ge j xs.length with h | h
    · omega
    · rw [List.getElem?_eq_none h] at hj; cases hj
  obtain ⟨c, hcl, ⟨rfl, hcs, ho⟩, hcell⟩ := hc j raws[j] (List.getElem?_eq_getElem hjl)
  exact ⟨_, hcl, hK j _ p (List.getElem?_eq_getElem hjl) hj, hcell⟩
theorem infoJob : (Try.prog.info? 105).map (fun i => (i.zero, i.size, i.bytes)) = some (some (.agg #[.int .i64 0, .slice none 0 0]), 2, 32) := by kernel_rfl
set_option maxRecDepth 100000 in
set_option maxHeartbeats 4000000 in
theorem Year_ok (A1 A2 A3 A : Option Addr) (k1 k2 k3 c : Nat) (first : List ByteArray) (chg : List S32) (good : GoodTown first chg) (ss : List S64) (hides drops : Int) (ok : OkWorks ss hides drops) (l : List S72) (hl : ∀ x ∈ l, OkSign first.length ss.length x) (hlen : l.length ≤ 6) (w : World)
    (hC1 : Kd.string.C w A1 first.length first) (hC2 : k32.C w A2 chg.length chg) (hC3 : k64.C w A3 ss.length ss) (hL : k72.C w A l.length l) :
    Calls Try.prog 17 #[.agg #[.slice A1 first.length k1, .slice A2 chg.length k2], .agg #[.slice A3 ss.length k3, .int .i64 hides, .int .i64 drops], .slice A l.length c] w fun e w' => ∃ v1 v2, e = .returned (.tuple #[v1, v2, .int .i64 0]) ∧ Kd.string.R 9 w' w.heap.size (fun _ => True) v1 (l.map fun x => nameAt first chg x.f0 x.f1) ∧ k61.R 61 w' w.heap.size (fun _ => True) v2 (usesOf ss (l.map jobOf)) ∧ Below w.heap.size w w' := by
  have HNA := Lib.hid (fun s h h1 h2 h3 h4 W hC1 hC2 => Name_ok A1 A2 k1 k2 first chg good s h h1 h2 h3 h4 W hC1 hC2)
  have HUS := Lib.hid (fun A4 k4 W hC hJ => Uses_ok A3 A4 k3 k4 ss hides drops ok (l.map jobOf) (fun j hj => by obtain ⟨x, hx, rfl⟩ := List.mem_map.1 hj; exact (hl x hx).jb) (by rw [List.length_map]; exact hlen) W hC hJ)
  have HC1 := Aside0.mk hC1
  have HC2 := Aside0.mk hC2
  have HC3 := Aside0.mk hC3
  have HL := Aside0.mk hL
  have HOK := Aside0.mk hl
  clear hC1 hC2 hC3 hL hl ok good
  go_enter Try.func17, Try.ntmps17
  go_wp2_with fail
  have t1 := blk_alloc (blk_new w (.cells #[.slice A1 first.length k1, .slice A2 chg.length k2] 27)) (.cells #[.slice A3 ss.length k3, .int .i64 hides, .int .i64 drops] 67)
  have t2 := blk_new (w.alloc (.cells #[.slice A1 first.length k1, .slice A2 chg.length k2] 27)) (.cells #[.slice A3 ss.length k3, .int .i64 hides, .int .i64 drops] 67)
  rw [World.size_alloc] at t2
  have HB0 := Aside0.mk (below_alloc (below_alloc (Below.refl w.heap.size w) (.cells #[.slice A1 first.length k1, .slice A2 chg.length k2] 27)) (.cells #[.slice A3 ss.length k3, .int .i64 hides, .int .i64 drops] 67))
  generalize (w.alloc (.cells #[.slice A1 first.length k1, .slice A2 chg.length k2] 27)).alloc (.cells #[.slice A3 ss.length k3, .int .i64 hides, .int .i64 drops] 67) = W0 at t1 t2 HB0 ⊢
  have BT := Aside0.mk t1
  have BW := Aside0.mk t2
  clear t1 t2
  go_loopw [6, 9, 11, 12, 13, 19] (fun s6 s9 _ _ _ s19 wr => ∃ m : Nat, m ≤ l.length ∧ s19 = .int .i64 m ∧ Aside0 (Kd.string.R 9 wr w.heap.size (fun _ => True) s6 ((l.take m).map fun x => nameAt first chg x.f0 x.f1)) ∧ Aside0 (∃ raws : List (List Value), raws.length = m ∧ (Kd.raw 2).R 105 wr w.heap.size (fun _ => True) s9 raws ∧ ∀ (j : Nat) (r : List Value) (p : S105), raws[j]? = some r → (l.map jobOf)[j]? = some p → k105.K w p r)
      ∧ Aside0 (wr.heap[w.heap.size]? = some (.cells #[.slice A1 first.length k1, .slice A2 chg.length k2] 27 (0, 0))) ∧ Aside0 (wr.heap[w.heap.size + 1]? = some (.cells #[.slice A3 ss.length k3, .int .i64 hides, .int .i64 drops] 67 (0, 0))) ∧ Aside0 (Below w.heap.size w wr)) (fun _ _ _ _ _ s19 _ => l.length - (intOf s19).toNat)
  case atStart => exact ⟨0, Nat.zero_le _, rfl, ⟨Kd.R_nil _ _ _ _ _⟩, ⟨[], rfl, Kd.R_nil _ _ _ _ _, fun j r p h => by simp at h⟩, BT, BW, HB0⟩
  case round =>
    clear BT BW HB0
    obtain ⟨m, hm, rfl, HV, HW, BT, BW, HB⟩ := hrel
    rename World => wo
    have p0 : wo.cell? ⟨w.heap.size, 0, none⟩ = some (.slice A1 first.length k1) := (blk_cell BT.out 0).trans rfl
    have p1 : wo.cell? ⟨w.heap.size, 1, none⟩ = some (.slice A2 chg.length k2) := (blk_cell BT.out 1).trans rfl
    have hwo1 : w.heap.size + 1 < wo.heap.size := blk_lt BW.out
    have hwo0 : w.heap.size < wo.heap.size := by omega
    by_cases hlt : m < l.length
    · have hltz : (m : Int) < (l.length : Int) := by omega
      obtain ⟨ad, Ax, cx, eA, hc0, hc1, hc2, hc3, hlx, hCx⟩ := at_T72 HL.out (m : Int) (by omega) (by omega)
      have hrd : rd_T72 l (m : Int) = l[m] := getD_at l m _ hlt
      simp only [hrd, Int.toNat_natCast] at hc0 hc1 hc2 hc3 hlx hCx
      obtain ⟨h1, h2, h3, h4, _⟩ := HOK.out l[m] (List.getElem_mem hlt)
      have ht : (l.take (m + 1)).map (fun x => nameAt first chg x.f0 x.f1) = (l.take m).map (fun x => nameAt first chg x.f0 x.f1) ++ [nameAt first chg l[m].f0 l[m].f1] := by rw [List.take_succ_eq_append_getElem hlt, List.map_append]; rfl
      have hj : (l.map jobOf)[m]? = some ⟨l[m].f2, l[m].f3⟩ := by rw [List.getElem?_map, List.getElem?_eq_getElem hlt]; rfl
      have hKm : k105.K w ⟨l[m].f2, l[m].f3⟩ [.int .i64 l[m].f2, .slice Ax l[m].f3.length cx] := k105_mk w ⟨l[m].f2, l[m].f3⟩ hlx hCx
      have y0 := (HB.out.cell (World.block_lt_of_cell? _ _ hc0)).trans hc0
      have y1 := (HB.out.cell (World.block_lt_of_cell? _ _ hc1)).trans hc1
      have y2 := (HB.out.cell (World.block_lt_of_cell? _ _ hc2)).trans hc2
      have y3 := (HB.out.cell (World.block_lt_of_cell? _ _ hc3)).trans hc3
      have HT := Aside0.mk ht
      have HJ := Aside0.mk hj
      have HKM := Aside0.mk hKm
      subst eA
      clear hrd ht hj hKm hc0 hc1 hc2 hc3 hlx hCx
      generalize l[m] = x at y0 y1 y2 y3 h1 h2 h3 h4 HT HJ HKM
      obtain ⟨st, la, feet, coats⟩ := x
      simp only at y0 y1 y2 y3 h1 h2 h3 h4
      generalize coats.length = nc at y3 HKM
      obtain ⟨w4, hw4⟩ : ∃ w4, w4 = wo.alloc (.cells #[.int .i64 st, .int .i64 la, .int .i64 feet, .slice Ax nc cx] 72) := ⟨_, rfl⟩
      have HB4 := Aside0.mk (below_alloc (Below.refl wo.heap.size wo) (.cells #[.int .i64 st, .int .i64 la, .int .i64 feet, .slice Ax nc cx] 72))
      have BX := Aside0.mk (blk_new wo (.cells #[.int .i64 st, .int .i64 la, .int .i64 feet, .slice Ax nc cx] 72))
      rw [← hw4] at HB4 BX
      go_wp2_with fail
      try rw [← hw4]
      clear hw4
      have HBw4 := Aside0.mk (below_step HB.out HB4.out)
      refine (HNA.out st la h1 h2 h3 h4 w4 (Kd.C_below HC1.out HBw4.out) (Kd.C_below HC2.out HBw4.out)).mono ?_
      rintro e w5 ⟨rfl, hb5⟩
      have HB5 := Aside0.mk (below_step HB4.out hb5)
      have HBw5 := Aside0.mk (below_step HB.out HB5.out)
      have BX5 := Aside0.mk (blk_below BX.out hb5)
      have BT5 := Aside0.mk (blk_below BT.out HB5.out)
      have BW5 := Aside0.mk (blk_below BW.out HB5.out)
      have HV5 := Aside0.mk (Kd.R_below HV.out HB5.out)
      obtain ⟨raws, hrl, hRr, hKr⟩ := HW.out
      have HR5 := Aside0.mk (Kd.R_below hRr HB5.out)
      have HKR := Aside0.mk hKr
      have hw5 := HBw5.out.size
      have hlm : ((l.take m).map fun x => nameAt first chg x.f0 x.f1).length = m := by rw [List.length_map, List.length_take]; omega
      generalize nameAt first chg st la = nm at HT
      clear hb5 HB4 HBw4 BX HV HW BT BW HB hRr hKr y0 y1 y2 y3 p0 p1
      go_wp2_with (first
        | (at_builtin; refine Kd.R_append Kd.string (w0 := w) w.heap.size rfl (.tmp 35) (.tmp 37) 24 9 (.string ⟨#[]⟩) 16 rfl Try.underlying24 infoStr rfl (by decide) (by decide) u6 ((l.take m).map fun x => nameAt first chg x.f0 x.f1) nm [.string nm] (fun _ => True) (fun _ => False) rfl rfl rfl (fun _ hk_ => hk_.elim) (fun _ _ => trivial) HV5.out HBw5.out hw5 (by omega) ?_; intro v11 w11 ho hb hg _; have HV11 := Aside0.mk ho; have HB11 := Aside0.mk hb; have HR11 := Aside0.mk (Kd.R_over' HR5.out (Kd.R_typed HV5.out) (by decide) hg); have BT11 := Aside0.mk (blk_grown BT5.out hg (Kd.R_ne HV5.out BT5.out (by decide))); have BW11 := Aside0.mk (blk_grown BW5.out hg (Kd.R_ne HV5.out BW5.out (by decide))); have BX11 := Aside0.mk (blk_grown BX5.out hg (Kd.R_ne HV5.out BX5.out (by decide))); have x2 : w11.cell? ⟨wo.heap.size, 2, none⟩ = some (.int .i64 feet) := (blk_cell BX11.out 2).trans rfl; have x3 : w11.cell? ⟨wo.heap.size, 3, none⟩ = some (.slice Ax nc cx) := (blk_cell BX11.out 3).trans rfl; clear ho hb hg)
        | (at_builtin; refine Kd.R_append (Kd.raw 2) (w0 := w) w.heap.size rfl (.tmp 39) (.tmp 45) 103 105 (.agg #[.int .i64 0, .slice none 0 0]) 32 rfl Try.underlying103 infoJob rfl (by decide) (by decide) u9 raws [.int .i64 feet, .slice Ax nc cx] [.int .i64 feet, .slice Ax nc cx] (fun _ => True) (fun _ => False) rfl rfl ⟨rfl, rfl, by simp [Value.oneCell']⟩ (fun _ hk_ => hk_.elim) (fun _ _ => trivial) HR11.out HB11.out HB11.out.size (by omega) ?_; intro v12 w12 ho hb hg _; have HR12 := Aside0.mk ho; have HB12 := Aside0.mk hb; have HV12 := Aside0.mk (Kd.R_over' HV11.out (Kd.R_typed HR11.out) (by decide) hg); have BT12 := Aside0.mk (blk_grown BT11.out hg (Kd.R_ne HR11.out BT11.out (by decide))); have BW12 := Aside0.mk (blk_grown BW11.out hg (Kd.R_ne HR11.out BW11.out (by decide))); clear ho hb hg))
      go_roundw
      case rel =>
        refine ⟨m + 1, by omega, by go_num, by rw [HT.out]; exact HV12, ⟨raws ++ [[.int .i64 feet, .slice Ax nc cx]], by rw [List.length_append, hrl]; rfl, HR12.out, fun j r p hr hp => ?_⟩, BT12, BW12, HB12⟩
        rcases Nat.lt_or_ge j m with hjm | hjm
        · rw [List.getElem?_append_left (by omega)] at hr
          exact HKR.out j r p hr hp
        · rw [List.getElem?_append_right (by omega), hrl] at hr
          rcases Nat.eq_zero_or_pos (j - m) with h0 | h0
          · rw [h0] at hr
            obtain rfl : j = m := by omega
            rw [HJ.out] at hp
            simp only [List.getElem?_cons_zero, Option.some.injEq] at hr hp
            subst hr hp
            exact HKM.out
          · rw [List.getElem?_eq_none (by simp; omega)] at hr
            cases hr
      case measure => simp [intOf]; omega
    · obtain rfl : m = l.length := by omega
      have hltz : ¬ (l.length : Int) < (l.length : Int) := by omega
      obtain ⟨raws, hrl, hRr, hKr⟩ := HW.out
      obtain ⟨A9, c9, e9⟩ := Kd.R_slice hRr
      rw [hrl] at e9
      subst e9
      have hraw := (Kd.R_reads' hRr).2.2
      have hjobs := C_of_raw (d := k105) hraw (xs := l.map jobOf) (by rw [List.length_map, hrl]) (fun j r p hr hp => k105.K_below HB.out (hKr j r p hr hp))
      have hus := HUS.out A9 c9 wo (Kd.C_below HC3.out HB.out) hjobs
      rw [List.length_map] at hus
      have HU := Lib.hid hus
      have hv := HV.out
      rw [List.take_length] at hv
      have HVl := Aside0.mk hv
      have q0 : wo.cell? ⟨w.heap.size + 1, 0, none⟩ = some (.slice A3 ss.length k3) := (blk_cell BW.out 0).trans rfl
      have q1 : wo.cell? ⟨w.heap.size + 1, 1, none⟩ = some (.int .i64 hides) := (blk_cell BW.out 1).trans rfl
      have q2 : wo.cell? ⟨w.heap.size + 1, 2, none⟩ = some (.int .i64 drops) := (blk_cell BW.out 2).trans rfl
      have hw := HB.out.size
      clear hraw hjobs hus hv HW hRr hKr HUS
      go_wp2_with fail
      refine HU.out.mono ?_
      rintro e w9 ⟨v2, rfl, hv2, hb9⟩
      have HV9 := Aside0.mk (Kd.R_below HVl.out hb9)
      have HU9 := Aside0.mk (Kd.R_lower (base' := w.heap.size) hv2 hw)
      have HB9 := Aside0.mk (below_step HB.out hb9)
      clear hv2 hb9
      go_wp2
      go_ret3
      exact ⟨_, _, rfl, HV9.out, HU9.out, HB9.out⟩
end Go.Proofs.Ytfbndhhogpacmaa
/-! The small functions of the law's own: copies, works in bytes, signs in bytes. -/
namespace Go.Proofs.Ytfbndhhogpacmaa
open Go.RowKit Go.Shelf
open Go.Proofs.YtfbndhhogpacmaaW.PrintWords Go.Proofs.Ytfbndhhogpacmaa.T
set_option linter.unusedVariables false
set_option linter.unusedSimpArgs false
theorem sloeStreets_ok (A1 A2 : Option Addr) (k1 k2 : Nat) (first : List ByteArray) (chg : List S32) (h1 : first.length ≤ k1) (h2 : chg.length ≤ k2) (hf : first.length ≤ 1000) (hc : chg.length ≤ 1000) (w : World) (hC1 : Kd.string.C w A1 first.length first) (hC2 : k32.C w A2 chg.length chg) :
    Calls Try.prog 6 #[.agg #[.slice A1 first.length k1, .slice A2 chg.length k2]] w fun e w' => ∃ B1 B2 j1 j2, e = .returned (.agg #[.slice B1 first.length j1, .slice B2 chg.length j2]) ∧ first.length ≤ j1 ∧ chg.length ≤ j2 ∧ Kd.string.C w' B1 first.length first ∧ k32.C w' B2 chg.length chg ∧ Below w.heap.size w w' := by
  have hf' : smaltotop_sloeStreets.f first chg = some (first, chg) := by
    unfold smaltotop_sloeStreets.f
    rw [Option.bind_some, if_pos (by simp; omega), Option.bind_some, if_pos (by simp; omega)]
    rfl
  refine (smaltotop_sloeStreets.calls A1 k1 first A2 k2 chg first chg w hC1 h1 hC2 h2 hf').mono ?_
  rintro e w' ⟨v0, v1, rfl, hv0, hv1, hb⟩
  obtain ⟨B1, j1, rfl, hj1, hB1⟩ := Kd.R_reads hv0
  obtain ⟨B2, j2, rfl, hj2, hB2⟩ := Kd.R_reads hv1
  exact ⟨B1, B2, j1, j2, rfl, hj1, hj2, hB1, hB2, hb⟩
theorem wrap_nat (n : Nat) (h : n ≤ 1000000) : wrap64 ((n : Int) + 1) = ((n + 1 : Nat) : Int) := by unfold wrap64; omega
theorem tmod_pos {a b : Int} (h : 0 ≤ a) : Int.tmod a b = a % b := Int.tmod_eq_emod_of_nonneg h
end Go.Proofs.Ytfbndhhogpacmaa
