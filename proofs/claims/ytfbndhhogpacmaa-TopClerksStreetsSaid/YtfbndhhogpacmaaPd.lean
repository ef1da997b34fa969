import Derived.Test.YtfbndhhogpacmaaPa
import Derived.WalkKit
import Derived.WalkLawsBesides
import Derived.Deep.LoopGhost
import Derived.Deep.Light
import Derived.Lib.Hide
import Derived.Shelf.Abstract
import Derived.Maps.Own
import Derived.Maps.OwnOps
import Derived.Maps.Views
import Derived.RangeFuncNested
import Derived.RangeFuncBound
import Derived.RangeFuncCalls
import Derived.RangeFuncLeaves
import Derived.RangeFuncBox
import Derived.Shelf.RegionOpen
import Derived.OwnWalkIn
import Derived.TacticsInMore
import Derived.LoopNIn
import Derived.LoopIn
import Derived.Maps.AppendAt
import Derived.StillTailTactics
import Derived.Lib.SliceRun
import Derived.Laws.Cover3
/-! Words of this claim's own: a predicate handed to slices.IndexFunc; elements read at a natural index. -/
namespace Go.Proofs.Ytfbndhhogpacmaa
open Go.RowKit Go.Shelf
open Go.Proofs.YtfbndhhogpacmaaW.PrintWords Go.Proofs.Ytfbndhhogpacmaa.T
set_option linter.unusedVariables false
set_option linter.unusedSimpArgs false
/-- A function value of number g, with the captured lb, answers p x at every element whose cells lie in cs (its value: V cs), in every later world; what was there stays. -/
def PredK {α : Type} (P : Program) (g : Nat) (lb : Array Value) (V : List Value → Value) (d : Kd α) (p : α → Bool) (xs : List α) (w : World) : Prop :=
  ∀ (W : World) (x : α) (cs : List Value), x ∈ xs → Below w.heap.size w W → d.K W x cs → Calls P g (#[V cs] ++ lb) W fun e w' => e = .returned (.bool (p x)) ∧ Below W.heap.size W w'
def one1 (cs : List Value) : Value := cs.headD .nilIface
def agg1 (cs : List Value) : Value := .agg cs.toArray
theorem take_any_succ {α : Type} (p : α → Bool) (xs : List α) (k : Nat) (hk : k < xs.length) : (xs.take (k + 1)).any p = ((xs.take k).any p || p xs[k]) := by
  rw [List.take_succ_eq_append_getElem hk, List.any_append]
  simp
theorem any_of_take {α : Type} (p : α → Bool) (xs : List α) (k : Nat) (h : (xs.take k).any p = true) : xs.any p = true := by
  rw [List.any_eq_true] at h ⊢
  obtain ⟨x, hx, hp⟩ := h
  exact ⟨x, List.mem_of_mem_take hx, hp⟩
theorem getD_at {α : Type} (xs : List α) (k : Nat) (z : α) (hk : k < xs.length) : xs.getD k z = xs[k] := by
  rw [List.getD_eq_getElem?_getD, List.getElem?_eq_getElem hk]; rfl
theorem C_int_at {ik : IntKind} {w : World} {A : Option Addr} {n : Nat} {xs : List Int} (h : (Kd.int ik).C w A n xs) (k : Nat) (hk : k < n) :
    ∃ ad, A = some ad ∧ w.cell? (ad.add k) = some (.int ik (xs.getD k 0)) := by
  obtain ⟨ad, c, e, _, hK, hc⟩ := Kd.C_get h (0 : Int) (k : Int) (by omega) (by omega)
  obtain rfl : c = [.int ik (xs.getD k 0)] := hK
  have := hc 0 _ rfl
  have hs : (Kd.int ik).sz = 1 := rfl
  rw [hs] at this
  exact ⟨ad, e, by simpa using this⟩
theorem C_str_at {w : World} {A : Option Addr} {n : Nat} {xs : List ByteArray} (h : Kd.string.C w A n xs) (k : Nat) (hk : k < n) :
    ∃ ad, A = some ad ∧ w.cell? (ad.add k) = some (.string (xs.getD k ByteArray.empty)) := by
  obtain ⟨ad, c, e, _, hK, hc⟩ := Kd.C_get h ByteArray.empty (k : Int) (by omega) (by omega)
  obtain rfl : c = [.string (xs.getD k ByteArray.empty)] := hK
  have := hc 0 _ rfl
  have hs : Kd.string.sz = 1 := rfl
  rw [hs] at this
  exact ⟨ad, e, by simpa using this⟩
/-- A slice of one int that the caller has just laid. -/
theorem C_one (w : World) (b : Nat) (x : Int) (hx : w.cell? ⟨b, 0, none⟩ = some (.int .i64 x)) : (Kd.int .i64).C w (some ⟨b, 0, none⟩) 1 [x] :=
  ⟨rfl, by omega, fun _ => ⟨_, rfl, fun j p hj => by
    match j, hj with
    | 0, hj =>
      simp at hj
      subst hj
      exact ⟨[.int .i64 x], rfl, rfl, fun i u hi => by
        match i, hi with
        | 0, hi => simp at hi; subst hi; simpa [Addr.add] using hx⟩⟩⟩
theorem ret_bool {a b : Bool} (h : a = b) : Ending.returned (.bool a) = .returned (.bool b) := by rw [h]
theorem ret_int {k : IntKind} {a b : Int} (h : a = b) : Ending.returned (.int k a) = .returned (.int k b) := by rw [h]
theorem ret_str {a b : ByteArray} (h : a = b) : Ending.returned (.string a) = .returned (.string b) := by rw [h]
end Go.Proofs.Ytfbndhhogpacmaa
/-! within, slices.IndexFunc, slices.ContainsFunc: proved by hand. -/
namespace Go.Proofs.Ytfbndhhogpacmaa
open Go.RowKit Go.Shelf
open Go.Proofs.YtfbndhhogpacmaaW.PrintWords Go.Proofs.Ytfbndhhogpacmaa.T
set_option linter.unusedVariables false
set_option linter.unusedSimpArgs false
set_option maxHeartbeats 1000000 in
theorem IndexFunc_int (g : Nat) (lb : Array Value) (eg : ∀ args w, (callFunc g args).run Try.prog w = .ok (.enter g args) w) (p : Int → Bool) (A : Option Addr) (c : Nat) (xs : List Int) (w : World)
    (hp : PredK Try.prog g lb one1 (Kd.int .i64) p xs w) (hr : (Kd.int .i64).C w A xs.length xs) :
    Calls Try.prog 60 #[.slice A xs.length c, .func (.func g) #[] lb] w fun e w' => ∃ r : Int, e = .returned (.int .i64 r) ∧ decide (0 ≤ r) = xs.any p ∧ Below w.heap.size w w' := by
  have hmax := Kd.C_max hr
  have HR := Aside0.mk hr
  have HP := Aside0.mk hp
  clear hr hp
  go_enter Try.func60, Try.ntmps60
  go_wp2
  go_loopg [5, 8] xs.length (fun gg _ s8 wr => ∃ kk : Nat, kk ≤ xs.length ∧ xs.length - kk ≤ gg ∧ s8 = .int .i64 kk ∧ Aside0 (Below w.heap.size w wr) ∧ Aside0 ((xs.take kk).any p = false))
  case atStart => exact ⟨0, Nat.zero_le _, by omega, rfl, ⟨Below.refl _ w⟩, ⟨by simp⟩⟩
  case round =>
    obtain ⟨kk, hkk, hg, rfl, HB, HA⟩ := hrel
    by_cases hlt : kk < xs.length
    · have hltz : (kk : Int) < (xs.length : Int) := by omega
      obtain ⟨ad, eA, hcell⟩ := C_int_at (Kd.C_below HR.out HB.out) kk hlt
      subst eA
      rw [getD_at xs kk 0 hlt] at hcell
      have hcall : Calls Try.prog g (#[.int .i64 xs[kk]] ++ lb) wr _ := HP.out wr xs[kk] [.int .i64 xs[kk]] (List.getElem_mem hlt) HB.out rfl
      have B := Aside0.mk (take_any_succ p xs kk hlt)
      generalize xs[kk] = y at hcell hcall B
      cases hq : p y with
      | true =>
        rw [hq] at hcall B
        go_wp2_with (go_at_fn g; refine hcall.mono ?_; rintro e w' ⟨rfl, hb'⟩)
        go_ret
        refine ⟨_, rfl, ?_, HB.out.trans (hb'.mono HB.out.size)⟩
        rw [any_of_take p xs (kk + 1) (by rw [B.out]; simp)]
        simp
      | false =>
        rw [hq] at hcall B
        go_wp2_with (go_at_fn g; refine hcall.mono ?_; rintro e w' ⟨rfl, hb'⟩)
        go_roundg (xs.length - (kk + 1))
        case measure => omega
        case rel => exact ⟨kk + 1, by omega, by omega, by go_num, ⟨HB.out.trans (hb'.mono HB.out.size)⟩, ⟨by rw [B.out, HA.out]; rfl⟩⟩
    · have hltz : ¬ (kk : Int) < (xs.length : Int) := by omega
      obtain rfl : kk = xs.length := by omega
      go_wp2
      go_ret
      refine ⟨_, rfl, ?_, HB.out⟩
      have := HA.out
      rw [List.take_length] at this
      rw [this]
      rfl
set_option maxHeartbeats 1000000 in
theorem IndexFunc_str (g : Nat) (lb : Array Value) (eg : ∀ args w, (callFunc g args).run Try.prog w = .ok (.enter g args) w) (p : ByteArray → Bool) (A : Option Addr) (c : Nat) (xs : List ByteArray) (w : World)
    (hp : PredK Try.prog g lb one1 Kd.string p xs w) (hr : Kd.string.C w A xs.length xs) :
    Calls Try.prog 48 #[.slice A xs.length c, .func (.func g) #[] lb] w fun e w' => ∃ r : Int, e = .returned (.int .i64 r) ∧ decide (0 ≤ r) = xs.any p ∧ Below w.heap.size w w' := by
  have hmax := Kd.C_max hr
  have HR := Aside0.mk hr
  have HP := Aside0.mk hp
  clear hr hp
  go_enter Try.func48, Try.ntmps48
  go_wp2
  go_loopg [5, 8] xs.length (fun gg _ s8 wr => ∃ kk : Nat, kk ≤ xs.length ∧ xs.length - kk ≤ gg ∧ s8 = .int .i64 kk ∧ Aside0 (Below w.heap.size w wr) ∧ Aside0 ((xs.take kk).any p = false))
  case atStart => exact ⟨0, Nat.zero_le _, by omega, rfl, ⟨Below.refl _ w⟩, ⟨by simp⟩⟩
  case round =>
    obtain ⟨kk, hkk, hg, rfl, HB, HA⟩ := hrel
    by_cases hlt : kk < xs.length
    · have hltz : (kk : Int) < (xs.length : Int) := by omega
      obtain ⟨ad, eA, hcell⟩ := C_str_at (Kd.C_below HR.out HB.out) kk hlt
      subst eA
      rw [getD_at xs kk _ hlt] at hcell
      have hcall : Calls Try.prog g (#[.string xs[kk]] ++ lb) wr _ := HP.out wr xs[kk] [.string xs[kk]] (List.getElem_mem hlt) HB.out rfl
      have B := Aside0.mk (take_any_succ p xs kk hlt)
      generalize xs[kk] = y at hcell hcall B
      cases hq : p y with
      | true =>
        rw [hq] at hcall B
        go_wp2_with (go_at_fn g; refine hcall.mono ?_; rintro e w' ⟨rfl, hb'⟩)
        go_ret
        refine ⟨_, rfl, ?_, HB.out.trans (hb'.mono HB.out.size)⟩
        rw [any_of_take p xs (kk + 1) (by rw [B.out]; simp)]
        simp
      | false =>
        rw [hq] at hcall B
        go_wp2_with (go_at_fn g; refine hcall.mono ?_; rintro e w' ⟨rfl, hb'⟩)
        go_roundg (xs.length - (kk + 1))
        case measure => omega
        case rel => exact ⟨kk + 1, by omega, by omega, by go_num, ⟨HB.out.trans (hb'.mono HB.out.size)⟩, ⟨by rw [B.out, HA.out]; rfl⟩⟩
    · have hltz : ¬ (kk : Int) < (xs.length : Int) := by omega
      obtain rfl : kk = xs.length := by omega
      go_wp2
      go_ret
      refine ⟨_, rfl, ?_, HB.out⟩
      have := HA.out
      rw [List.take_length] at this
      rw [this]
      rfl
set_option maxHeartbeats 1000000 in
theorem IndexFunc_T32 (g : Nat) (lb : Array Value) (eg : ∀ args w, (callFunc g args).run Try.prog w = .ok (.enter g args) w) (p : S32 → Bool) (A : Option Addr) (c : Nat) (xs : List S32) (w : World)
    (hp : PredK Try.prog g lb agg1 k32 p xs w) (hr : k32.C w A xs.length xs) :
    Calls Try.prog 49 #[.slice A xs.length c, .func (.func g) #[] lb] w fun e w' => ∃ r : Int, e = .returned (.int .i64 r) ∧ decide (0 ≤ r) = xs.any p ∧ Below w.heap.size w w' := by
  have hmax := Kd.C_max hr
  have HR := Aside0.mk hr
  have HP := Aside0.mk hp
  clear hr hp
  go_enter Try.func49, Try.ntmps49
  go_wp2
  go_loopg [5, 8] xs.length (fun gg _ s8 wr => ∃ kk : Nat, kk ≤ xs.length ∧ xs.length - kk ≤ gg ∧ s8 = .int .i64 kk ∧ Aside0 (Below w.heap.size w wr) ∧ Aside0 ((xs.take kk).any p = false))
  case atStart => exact ⟨0, Nat.zero_le _, by omega, rfl, ⟨Below.refl _ w⟩, ⟨by simp⟩⟩
  case round =>
    obtain ⟨kk, hkk, hg, rfl, HB, HA⟩ := hrel
    by_cases hlt : kk < xs.length
    · have hltz : (kk : Int) < (xs.length : Int) := by omega
      obtain ⟨ad, eA, hc0, hc1, hc2⟩ := at_T32 (Kd.C_below HR.out HB.out) (kk : Int) (by omega) (by omega)
      subst eA
      have hrd : rd_T32 xs (kk : Int) = xs[kk] := getD_at xs kk _ hlt
      simp only [hrd, Int.toNat_natCast] at hc0 hc1 hc2
      have B := Aside0.mk (take_any_succ p xs kk hlt)
      have hcallX : ∀ y : S32, y ∈ xs → Calls Try.prog g (#[.agg ([.int .i64 y.f0, .int .i64 y.f1, .string y.f2] : List Value).toArray] ++ lb) wr fun e w' => e = .returned (.bool (p y)) ∧ Below wr.heap.size wr w'   := fun y hy => HP.out wr y [.int .i64 y.f0, .int .i64 y.f1, .string y.f2] hy HB.out (k32_mk wr y)
      clear hrd
      have hmem : xs[kk] ∈ xs := List.getElem_mem hlt
      generalize xs[kk] = y at hc0 hc1 hc2 B hmem
      have hcall := hcallX y hmem
      clear hcallX hmem
      cases hq : p y with
      | true =>
        rw [hq] at hcall B
        go_wp2_with (go_at_fn g; refine hcall.mono ?_; rintro e w' ⟨rfl, hb'⟩)
        go_ret
        refine ⟨_, rfl, ?_, HB.out.trans (hb'.mono HB.out.size)⟩
        rw [any_of_take p xs (kk + 1) (by rw [B.out]; simp)]
        simp
      | false =>
        rw [hq] at hcall B
        go_wp2_with (go_at_fn g; refine hcall.mono ?_; rintro e w' ⟨rfl, hb'⟩)
        go_roundg (xs.length - (kk + 1))
        case measure => omega
        case rel => exact ⟨kk + 1, by omega, by omega, by go_num, ⟨HB.out.trans (hb'.mono HB.out.size)⟩, ⟨by rw [B.out, HA.out]; rfl⟩⟩
    · have hltz : ¬ (kk : Int) < (xs.length : Int) := by omega
      obtain rfl : kk = xs.length := by omega
      go_wp2
      go_ret
      refine ⟨_, rfl, ?_, HB.out⟩
      have := HA.out
      rw [List.take_length] at this
      rw [this]
      rfl
set_option maxHeartbeats 1000000 in
theorem IndexFunc_T64 (g : Nat) (lb : Array Value) (eg : ∀ args w, (callFunc g args).run Try.prog w = .ok (.enter g args) w) (p : S64 → Bool) (A : Option Addr) (c : Nat) (xs : List S64) (w : World)
    (hp : PredK Try.prog g lb agg1 k64 p xs w) (hr : k64.C w A xs.length xs) :
    Calls Try.prog 99 #[.slice A xs.length c, .func (.func g) #[] lb] w fun e w' => ∃ r : Int, e = .returned (.int .i64 r) ∧ decide (0 ≤ r) = xs.any p ∧ Below w.heap.size w w' := by
  have hmax := Kd.C_max hr
  have HR := Aside0.mk hr
  have HP := Aside0.mk hp
  clear hr hp
  go_enter Try.func99, Try.ntmps99
  go_wp2
  go_loopg [5, 8] xs.length (fun gg _ s8 wr => ∃ kk : Nat, kk ≤ xs.length ∧ xs.length - kk ≤ gg ∧ s8 = .int .i64 kk ∧ Aside0 (Below w.heap.size w wr) ∧ Aside0 ((xs.take kk).any p = false))
  case atStart => exact ⟨0, Nat.zero_le _, by omega, rfl, ⟨Below.refl _ w⟩, ⟨by simp⟩⟩
  case round =>
    obtain ⟨kk, hkk, hg, rfl, HB, HA⟩ := hrel
    by_cases hlt : kk < xs.length
    · have hltz : (kk : Int) < (xs.length : Int) := by omega
      obtain ⟨ad, eA, hc0, hc1, hc2, hc3, hc4⟩ := at_T64 (Kd.C_below HR.out HB.out) (kk : Int) (by omega) (by omega)
      subst eA
      have hrd : rd_T64 xs (kk : Int) = xs[kk] := getD_at xs kk _ hlt
      simp only [hrd, Int.toNat_natCast] at hc0 hc1 hc2 hc3 hc4
      have B := Aside0.mk (take_any_succ p xs kk hlt)
      have hcallX : ∀ y : S64, y ∈ xs → Calls Try.prog g (#[.agg ([.int .i64 y.f0.f0, .int .i64 y.f0.f1, .int .i64 y.f1.f0, .int .i64 y.f1.f1, .int .i64 y.f2] : List Value).toArray] ++ lb) wr fun e w' => e = .returned (.bool (p y)) ∧ Below wr.heap.size wr w'   := fun y hy => HP.out wr y [.int .i64 y.f0.f0, .int .i64 y.f0.f1, .int .i64 y.f1.f0, .int .i64 y.f1.f1, .int .i64 y.f2] hy HB.out (k64_mk wr y)
      clear hrd
      have hmem : xs[kk] ∈ xs := List.getElem_mem hlt
      generalize xs[kk] = y at hc0 hc1 hc2 hc3 hc4 B hmem
      have hcall := hcallX y hmem
      clear hcallX hmem
      cases hq : p y with
      | true =>
        rw [hq] at hcall B
        go_wp2_with (go_at_fn g; refine hcall.mono ?_; rintro e w' ⟨rfl, hb'⟩)
        go_ret
        refine ⟨_, rfl, ?_, HB.out.trans (hb'.mono HB.out.size)⟩
        rw [any_of_take p xs (kk + 1) (by rw [B.out]; simp)]
        simp
      | false =>
        rw [hq] at hcall B
        go_wp2_with (go_at_fn g; refine hcall.mono ?_; rintro e w' ⟨rfl, hb'⟩)
        go_roundg (xs.length - (kk + 1))
        case measure => omega
        case rel => exact ⟨kk + 1, by omega, by omega, by go_num, ⟨HB.out.trans (hb'.mono HB.out.size)⟩, ⟨by rw [B.out, HA.out]; rfl⟩⟩
    · have hltz : ¬ (kk : Int) < (xs.length : Int) := by omega
      obtain rfl : kk = xs.length := by omega
      go_wp2
      go_ret
      refine ⟨_, rfl, ?_, HB.out⟩
      have := HA.out
      rw [List.take_length] at this
      rw [this]
      rfl
end Go.Proofs.Ytfbndhhogpacmaa
/-! slices.ContainsFunc; within: proved by hand. -/
namespace Go.Proofs.Ytfbndhhogpacmaa
open Go.RowKit Go.Shelf
open Go.Proofs.YtfbndhhogpacmaaW.PrintWords Go.Proofs.Ytfbndhhogpacmaa.T
set_option linter.unusedVariables false
set_option linter.unusedSimpArgs false
theorem ContainsFunc_int (g : Nat) (lb : Array Value) (eg : ∀ args w, (callFunc g args).run Try.prog w = .ok (.enter g args) w) (p : Int → Bool) (A : Option Addr) (c : Nat) (xs : List Int) (w : World)
    (hp : PredK Try.prog g lb one1 (Kd.int .i64) p xs w) (hr : ((Kd.int .i64)).C w A xs.length xs) :
    Calls Try.prog 46 #[.slice A xs.length c, .func (.func g) #[] lb] w fun e w' => e = .returned (.bool (xs.any p)) ∧ Below w.heap.size w w' := by
  have HC := Lib.hid (IndexFunc_int g lb eg p A c xs w hp hr)
  clear hr hp
  go_enter Try.func46, Try.ntmps46
  go_wp2_with (go_at_call 60; refine (HC.out).mono ?_; rintro e w' ⟨r, rfl, hq, hb⟩; replace hq := Aside0.mk hq)
  go_ret
  exact ⟨ret_bool hq.out, hb⟩
theorem ContainsFunc_str (g : Nat) (lb : Array Value) (eg : ∀ args w, (callFunc g args).run Try.prog w = .ok (.enter g args) w) (p : ByteArray → Bool) (A : Option Addr) (c : Nat) (xs : List ByteArray) (w : World)
    (hp : PredK Try.prog g lb one1 Kd.string p xs w) (hr : (Kd.string).C w A xs.length xs) :
    Calls Try.prog 31 #[.slice A xs.length c, .func (.func g) #[] lb] w fun e w' => e = .returned (.bool (xs.any p)) ∧ Below w.heap.size w w' := by
  have HC := Lib.hid (IndexFunc_str g lb eg p A c xs w hp hr)
  clear hr hp
  go_enter Try.func31, Try.ntmps31
  go_wp2_with (go_at_call 48; refine (HC.out).mono ?_; rintro e w' ⟨r, rfl, hq, hb⟩; replace hq := Aside0.mk hq)
  go_ret
  exact ⟨ret_bool hq.out, hb⟩
theorem ContainsFunc_T32 (g : Nat) (lb : Array Value) (eg : ∀ args w, (callFunc g args).run Try.prog w = .ok (.enter g args) w) (p : S32 → Bool) (A : Option Addr) (c : Nat) (xs : List S32) (w : World)
    (hp : PredK Try.prog g lb agg1 k32 p xs w) (hr : (k32).C w A xs.length xs) :
    Calls Try.prog 33 #[.slice A xs.length c, .func (.func g) #[] lb] w fun e w' => e = .returned (.bool (xs.any p)) ∧ Below w.heap.size w w' := by
  have HC := Lib.hid (IndexFunc_T32 g lb eg p A c xs w hp hr)
  clear hr hp
  go_enter Try.func33, Try.ntmps33
  go_wp2_with (go_at_call 49; refine (HC.out).mono ?_; rintro e w' ⟨r, rfl, hq, hb⟩; replace hq := Aside0.mk hq)
  go_ret
  exact ⟨ret_bool hq.out, hb⟩
theorem ContainsFunc_T64 (g : Nat) (lb : Array Value) (eg : ∀ args w, (callFunc g args).run Try.prog w = .ok (.enter g args) w) (p : S64 → Bool) (A : Option Addr) (c : Nat) (xs : List S64) (w : World)
    (hp : PredK Try.prog g lb agg1 k64 p xs w) (hr : (k64).C w A xs.length xs) :
    Calls Try.prog 97 #[.slice A xs.length c, .func (.func g) #[] lb] w fun e w' => e = .returned (.bool (xs.any p)) ∧ Below w.heap.size w w' := by
  have HC := Lib.hid (IndexFunc_T64 g lb eg p A c xs w hp hr)
  clear hr hp
  go_enter Try.func97, Try.ntmps97
  go_wp2_with (go_at_call 99; refine (HC.out).mono ?_; rintro e w' ⟨r, rfl, hq, hb⟩; replace hq := Aside0.mk hq)
  go_ret
  exact ⟨ret_bool hq.out, hb⟩
/-- The closure of street.within: 'n < least || n > most'. -/
theorem within1_street (lo hi n : Int) (a b : Addr) (w : World) (ha : w.cell? a = some (.int .i64 lo)) (hb : w.cell? b = some (.int .i64 hi)) :
    Calls Try.prog 47 #[.int .i64 n, .pointer (some a), .pointer (some b)] w fun e w' => e = .returned (.bool (decide (n < lo) || decide (hi < n))) ∧ w = w' := by
  by_cases h1 : n < lo
  · have h1b : decide (n < lo) = true := decide_eq_true h1
    go_enter Try.func47, Try.ntmps47
    go_wp2
    go_ret
    exact ⟨by simp [h1], rfl⟩
  · have h1b : decide (n < lo) = false := decide_eq_false h1
    go_enter Try.func47, Try.ntmps47
    go_wp2
    all_goals (go_ret; exact ⟨by simp_all, rfl⟩)
theorem within_street (lo hi : Int) (A : Option Addr) (c : Nat) (xs : List Int) (w : World) (hr : (Kd.int .i64).C w A xs.length xs) :
    Calls Try.prog 30 #[.int .i64 lo, .int .i64 hi, .slice A xs.length c] w fun e w' => e = .returned (.bool (xs.all fun n => decide (lo ≤ n) && decide (n ≤ hi))) ∧ Below w.heap.size w w' := by
  have hb : Below w.heap.size w ((w.alloc (.cells #[.int .i64 lo] 3)).alloc (.cells #[.int .i64 hi] 3)) := ((Below.refl _ _).alloc (Nat.le_refl _) _).alloc (by simp) _
  have HC := Lib.hid (ContainsFunc_int 47 #[.pointer (some ⟨w.heap.size, 0, none⟩), .pointer (some ⟨w.heap.size + 1, 0, none⟩)] (enters_of Try.func47 (by kernel_rfl) rfl) (fun n => decide (n < lo) || decide (hi < n)) A c xs _
    (fun W x cs _ hW hK => by
      obtain rfl : cs = [.int .i64 x] := hK
      exact (within1_street lo hi x _ _ W ((hW.cell (p := ⟨w.heap.size, 0, none⟩) (by simp; omega)).trans (by simp)) ((hW.cell (p := ⟨w.heap.size + 1, 0, none⟩) (by simp)).trans (by simp))).mono fun e w' ⟨he, hw⟩ => ⟨he, hw ▸ Below.refl _ _⟩) (Kd.C_below hr hb))
  have hall : (!(xs.any fun n => decide (n < lo) || decide (hi < n))) = xs.all fun n => decide (lo ≤ n) && decide (n ≤ hi) := by
    rw [List.not_any_eq_all_not]
    congr 1
    funext n
    by_cases h1 : n < lo <;> by_cases h2 : hi < n <;> simp [h1, h2] <;> omega
  have HALL := Lib.hid hall
  clear hall hr
  have HB := Aside0.mk hb
  clear hb
  go_enter Try.func30, Try.ntmps30
  go_wp2_with (go_at_call 46; refine (HC.out).mono ?_; rintro e w' ⟨rfl, hb⟩)
  go_ret
  exact ⟨ret_bool HALL.out, HB.out.trans (hb.mono (by simp; omega))⟩
/-- .. of one number, as the callers have it: a literal that they lay. -/
theorem within_street_1 (lo hi x : Int) (b : Nat) (w : World) (hx : w.cell? ⟨b, 0, none⟩ = some (.int .i64 x)) :
    Calls Try.prog 30 #[.int .i64 lo, .int .i64 hi, .slice (some ⟨b, 0, none⟩) 1 1] w fun e w' => e = .returned (.bool (decide (lo ≤ x) && decide (x ≤ hi))) ∧ Below w.heap.size w w' :=
  (within_street lo hi (some ⟨b, 0, none⟩) 1 [x] w (C_one w b x hx)).mono fun e w' ⟨he, hb⟩ => ⟨by rw [he]; simp, hb⟩
theorem within_street_new (lo hi x : Int) (w : World) :
    Calls Try.prog 30 #[.int .i64 lo, .int .i64 hi, .slice (some ⟨w.heap.size, 0, none⟩) 1 1] (w.alloc (.cells #[.int .i64 x] 3)) fun e w' => e = .returned (.bool (decide (lo ≤ x) && decide (x ≤ hi))) ∧ Below w.heap.size w w' :=
  (within_street_1 lo hi x w.heap.size _ (by simp)).mono fun e w' ⟨he, hb⟩ => ⟨he, ((Below.refl _ _).alloc (Nat.le_refl _) _).trans (hb.mono (by simp))⟩
theorem within_street_yes (lo hi x : Int) (h1 : lo ≤ x) (h2 : x ≤ hi) (w : World) :
    Calls Try.prog 30 #[.int .i64 lo, .int .i64 hi, .slice (some ⟨w.heap.size, 0, none⟩) 1 1] (w.alloc (.cells #[.int .i64 x] 3)) fun e w' => e = .returned (.bool true) ∧ Below w.heap.size w w' :=
  (within_street_new lo hi x w).mono fun e w' ⟨he, hb⟩ => ⟨by rw [he]; simp [h1, h2], hb⟩
theorem within_street_1y (lo hi x : Int) (b : Nat) (w : World) (h1 : lo ≤ x) (h2 : x ≤ hi) (hx : w.cell? ⟨b, 0, none⟩ = some (.int .i64 x)) :
    Calls Try.prog 30 #[.int .i64 lo, .int .i64 hi, .slice (some ⟨b, 0, none⟩) 1 1] w fun e w' => e = .returned (.bool true) ∧ Below w.heap.size w w' :=
  (within_street_1 lo hi x b w hx).mono fun e w' ⟨he, hb⟩ => ⟨by rw [he]; simp [h1, h2], hb⟩
/-- The closure of coat.within: 'n < least || n > most'. -/
theorem within1_coat (lo hi n : Int) (a b : Addr) (w : World) (ha : w.cell? a = some (.int .i64 lo)) (hb : w.cell? b = some (.int .i64 hi)) :
    Calls Try.prog 90 #[.int .i64 n, .pointer (some a), .pointer (some b)] w fun e w' => e = .returned (.bool (decide (n < lo) || decide (hi < n))) ∧ w = w' := by
  by_cases h1 : n < lo
  · have h1b : decide (n < lo) = true := decide_eq_true h1
    go_enter Try.func90, Try.ntmps90
    go_wp2
    go_ret
    exact ⟨by simp [h1], rfl⟩
  · have h1b : decide (n < lo) = false := decide_eq_false h1
    go_enter Try.func90, Try.ntmps90
    go_wp2
    all_goals (go_ret; exact ⟨by simp_all, rfl⟩)
theorem within_coat (lo hi : Int) (A : Option Addr) (c : Nat) (xs : List Int) (w : World) (hr : (Kd.int .i64).C w A xs.length xs) :
    Calls Try.prog 76 #[.int .i64 lo, .int .i64 hi, .slice A xs.length c] w fun e w' => e = .returned (.bool (xs.all fun n => decide (lo ≤ n) && decide (n ≤ hi))) ∧ Below w.heap.size w w' := by
  have hb : Below w.heap.size w ((w.alloc (.cells #[.int .i64 lo] 3)).alloc (.cells #[.int .i64 hi] 3)) := ((Below.refl _ _).alloc (Nat.le_refl _) _).alloc (by simp) _
  have HC := Lib.hid (ContainsFunc_int 90 #[.pointer (some ⟨w.heap.size, 0, none⟩), .pointer (some ⟨w.heap.size + 1, 0, none⟩)] (enters_of Try.func90 (by kernel_rfl) rfl) (fun n => decide (n < lo) || decide (hi < n)) A c xs _
    (fun W x cs _ hW hK => by
      obtain rfl : cs = [.int .i64 x] := hK
      exact (within1_coat lo hi x _ _ W ((hW.cell (p := ⟨w.heap.size, 0, none⟩) (by simp; omega)).trans (by simp)) ((hW.cell (p := ⟨w.heap.size + 1, 0, none⟩) (by simp)).trans (by simp))).mono fun e w' ⟨he, hw⟩ => ⟨he, hw ▸ Below.refl _ _⟩) (Kd.C_below hr hb))
  have hall : (!(xs.any fun n => decide (n < lo) || decide (hi < n))) = xs.all fun n => decide (lo ≤ n) && decide (n ≤ hi) := by
    rw [List.not_any_eq_all_not]
    congr 1
    funext n
    by_cases h1 : n < lo <;> by_cases h2 : hi < n <;> simp [h1, h2] <;> omega
  have HALL := Lib.hid hall
  clear hall hr
  have HB := Aside0.mk hb
  clear hb
  go_enter Try.func76, Try.ntmps76
  go_wp2_with (go_at_call 46; refine (HC.out).mono ?_; rintro e w' ⟨rfl, hb⟩)
  go_ret
  exact ⟨ret_bool HALL.out, HB.out.trans (hb.mono (by simp; omega))⟩
/-- .. of one number, as the callers have it: a literal that they lay. -/
theorem within_coat_1 (lo hi x : Int) (b : Nat) (w : World) (hx : w.cell? ⟨b, 0, none⟩ = some (.int .i64 x)) :
    Calls Try.prog 76 #[.int .i64 lo, .int .i64 hi, .slice (some ⟨b, 0, none⟩) 1 1] w fun e w' => e = .returned (.bool (decide (lo ≤ x) && decide (x ≤ hi))) ∧ Below w.heap.size w w' :=
  (within_coat lo hi (some ⟨b, 0, none⟩) 1 [x] w (C_one w b x hx)).mono fun e w' ⟨he, hb⟩ => ⟨by rw [he]; simp, hb⟩
theorem within_coat_new (lo hi x : Int) (w : World) :
    Calls Try.prog 76 #[.int .i64 lo, .int .i64 hi, .slice (some ⟨w.heap.size, 0, none⟩) 1 1] (w.alloc (.cells #[.int .i64 x] 3)) fun e w' => e = .returned (.bool (decide (lo ≤ x) && decide (x ≤ hi))) ∧ Below w.heap.size w w' :=
  (within_coat_1 lo hi x w.heap.size _ (by simp)).mono fun e w' ⟨he, hb⟩ => ⟨he, ((Below.refl _ _).alloc (Nat.le_refl _) _).trans (hb.mono (by simp))⟩
theorem within_coat_yes (lo hi x : Int) (h1 : lo ≤ x) (h2 : x ≤ hi) (w : World) :
    Calls Try.prog 76 #[.int .i64 lo, .int .i64 hi, .slice (some ⟨w.heap.size, 0, none⟩) 1 1] (w.alloc (.cells #[.int .i64 x] 3)) fun e w' => e = .returned (.bool true) ∧ Below w.heap.size w w' :=
  (within_coat_new lo hi x w).mono fun e w' ⟨he, hb⟩ => ⟨by rw [he]; simp [h1, h2], hb⟩
theorem within_coat_1y (lo hi x : Int) (b : Nat) (w : World) (h1 : lo ≤ x) (h2 : x ≤ hi) (hx : w.cell? ⟨b, 0, none⟩ = some (.int .i64 x)) :
    Calls Try.prog 76 #[.int .i64 lo, .int .i64 hi, .slice (some ⟨b, 0, none⟩) 1 1] w fun e w' => e = .returned (.bool true) ∧ Below w.heap.size w w' :=
  (within_coat_1 lo hi x b w hx).mono fun e w' ⟨he, hb⟩ => ⟨by rw [he]; simp [h1, h2], hb⟩
/-- The closure of file.within: 'n < least || n > most'. -/
theorem within1_file (lo hi n : Int) (a b : Addr) (w : World) (ha : w.cell? a = some (.int .i64 lo)) (hb : w.cell? b = some (.int .i64 hi)) :
    Calls Try.prog 80 #[.int .i64 n, .pointer (some a), .pointer (some b)] w fun e w' => e = .returned (.bool (decide (n < lo) || decide (hi < n))) ∧ w = w' := by
  by_cases h1 : n < lo
  · have h1b : decide (n < lo) = true := decide_eq_true h1
    go_enter Try.func80, Try.ntmps80
    go_wp2
    go_ret
    exact ⟨by simp [h1], rfl⟩
  · have h1b : decide (n < lo) = false := decide_eq_false h1
    go_enter Try.func80, Try.ntmps80
    go_wp2
    all_goals (go_ret; exact ⟨by simp_all, rfl⟩)
theorem within_file (lo hi : Int) (A : Option Addr) (c : Nat) (xs : List Int) (w : World) (hr : (Kd.int .i64).C w A xs.length xs) :
    Calls Try.prog 57 #[.int .i64 lo, .int .i64 hi, .slice A xs.length c] w fun e w' => e = .returned (.bool (xs.all fun n => decide (lo ≤ n) && decide (n ≤ hi))) ∧ Below w.heap.size w w' := by
  have hb : Below w.heap.size w ((w.alloc (.cells #[.int .i64 lo] 3)).alloc (.cells #[.int .i64 hi] 3)) := ((Below.refl _ _).alloc (Nat.le_refl _) _).alloc (by simp) _
  have HC := Lib.hid (ContainsFunc_int 80 #[.pointer (some ⟨w.heap.size, 0, none⟩), .pointer (some ⟨w.heap.size + 1, 0, none⟩)] (enters_of Try.func80 (by kernel_rfl) rfl) (fun n => decide (n < lo) || decide (hi < n)) A c xs _
    (fun W x cs _ hW hK => by
      obtain rfl : cs = [.int .i64 x] := hK
      exact (within1_file lo hi x _ _ W ((hW.cell (p := ⟨w.heap.size, 0, none⟩) (by simp; omega)).trans (by simp)) ((hW.cell (p := ⟨w.heap.size + 1, 0, none⟩) (by simp)).trans (by simp))).mono fun e w' ⟨he, hw⟩ => ⟨he, hw ▸ Below.refl _ _⟩) (Kd.C_below hr hb))
  have hall : (!(xs.any fun n => decide (n < lo) || decide (hi < n))) = xs.all fun n => decide (lo ≤ n) && decide (n ≤ hi) := by
    rw [List.not_any_eq_all_not]
    congr 1
    funext n
    by_cases h1 : n < lo <;> by_cases h2 : hi < n <;> simp [h1, h2] <;> omega
  have HALL := Lib.hid hall
  clear hall hr
  have HB := Aside0.mk hb
  clear hb
  go_enter Try.func57, Try.ntmps57
  go_wp2_with (go_at_call 46; refine (HC.out).mono ?_; rintro e w' ⟨rfl, hb⟩)
  go_ret
  exact ⟨ret_bool HALL.out, HB.out.trans (hb.mono (by simp; omega))⟩
/-- .. of one number, as the callers have it: a literal that they lay. -/
theorem within_file_1 (lo hi x : Int) (b : Nat) (w : World) (hx : w.cell? ⟨b, 0, none⟩ = some (.int .i64 x)) :
    Calls Try.prog 57 #[.int .i64 lo, .int .i64 hi, .slice (some ⟨b, 0, none⟩) 1 1] w fun e w' => e = .returned (.bool (decide (lo ≤ x) && decide (x ≤ hi))) ∧ Below w.heap.size w w' :=
  (within_file lo hi (some ⟨b, 0, none⟩) 1 [x] w (C_one w b x hx)).mono fun e w' ⟨he, hb⟩ => ⟨by rw [he]; simp, hb⟩
theorem within_file_new (lo hi x : Int) (w : World) :
    Calls Try.prog 57 #[.int .i64 lo, .int .i64 hi, .slice (some ⟨w.heap.size, 0, none⟩) 1 1] (w.alloc (.cells #[.int .i64 x] 3)) fun e w' => e = .returned (.bool (decide (lo ≤ x) && decide (x ≤ hi))) ∧ Below w.heap.size w w' :=
  (within_file_1 lo hi x w.heap.size _ (by simp)).mono fun e w' ⟨he, hb⟩ => ⟨he, ((Below.refl _ _).alloc (Nat.le_refl _) _).trans (hb.mono (by simp))⟩
theorem within_file_yes (lo hi x : Int) (h1 : lo ≤ x) (h2 : x ≤ hi) (w : World) :
    Calls Try.prog 57 #[.int .i64 lo, .int .i64 hi, .slice (some ⟨w.heap.size, 0, none⟩) 1 1] (w.alloc (.cells #[.int .i64 x] 3)) fun e w' => e = .returned (.bool true) ∧ Below w.heap.size w w' :=
  (within_file_new lo hi x w).mono fun e w' ⟨he, hb⟩ => ⟨by rw [he]; simp [h1, h2], hb⟩
theorem within_file_1y (lo hi x : Int) (b : Nat) (w : World) (h1 : lo ≤ x) (h2 : x ≤ hi) (hx : w.cell? ⟨b, 0, none⟩ = some (.int .i64 x)) :
    Calls Try.prog 57 #[.int .i64 lo, .int .i64 hi, .slice (some ⟨b, 0, none⟩) 1 1] w fun e w' => e = .returned (.bool true) ∧ Below w.heap.size w w' :=
  (within_file_1 lo hi x b w hx).mono fun e w' ⟨he, hb⟩ => ⟨by rw [he]; simp [h1, h2], hb⟩
end Go.Proofs.Ytfbndhhogpacmaa
/-! Names of streets, hours, changes: street.isName, isHour, isChange, Check: proved by hand, at what is valid. -/
namespace Go.Proofs.Ytfbndhhogpacmaa
open Go.RowKit Go.Shelf
open Go.Proofs.YtfbndhhogpacmaaW.PrintWords Go.Proofs.Ytfbndhhogpacmaa.T
set_option linter.unusedVariables false
set_option linter.unusedSimpArgs false
/-- A name: one to ten letters from a to z. -/
def IsNm (s : ByteArray) : Prop := 1 ≤ s.size ∧ s.size ≤ 10 ∧ ∀ (i : Nat) (h : i < s.size), 97 ≤ (s[i]'h).toNat ∧ (s[i]'h).toNat ≤ 122
set_option maxHeartbeats 1000000 in
theorem isName_street (s : ByteArray) (hs : IsNm s) (w : World) :
    Calls Try.prog 23 #[.string s] w fun e w' => e = .returned (.bool true) ∧ Below w.heap.size w w' := by
  have H1 := hs.1
  have H2 := hs.2.1
  have HL := Aside0.mk hs.2.2
  clear hs
  go_enter Try.func23, Try.ntmps23
  go_wp2
  go_loopw [4] (fun _ w' => ∃ pos : Nat, w' = w.iter s pos ∧ pos ≤ s.size) (fun _ w' => s.size - w'.iterPos w.heap.size)
  case atStart => exact ⟨0, rfl, by omega⟩
  case round =>
    obtain ⟨pos, rfl, hpos⟩ := hrel
    by_cases hp : pos < s.size
    · obtain ⟨hc1, hc2⟩ := HL.out pos hp
      have hnx : ∀ ty, (Instr.next (.pointer (some ⟨w.heap.size, 0, none⟩)) true ty).run Try.prog (w.iter s pos) = _ := fun ty => run_next_ascii w s pos ty hp (by omega)
      have hc1' : (97 : Int) ≤ (((s[pos]'hp).toNat : Nat) : Int) := by omega
      have hc2' : (((s[pos]'hp).toNat : Nat) : Int) ≤ 122 := by omega
      go_wp2
      go_roundw
      case rel => exact ⟨pos + 1, rfl, by omega⟩
      case measure => simp; omega
    · have hnx : ∀ ty, (Instr.next (.pointer (some ⟨w.heap.size, 0, none⟩)) true ty).run Try.prog (w.iter s pos) = _ := fun ty => run_next_end w s pos ty hp
      have hB : Below w.heap.size w (w.iter s pos) := (Below.refl _ _).alloc (Nat.le_refl _) _
      generalize w.iter s pos = W at hnx hB ⊢
      have HB := Aside0.mk hB
      have hsz := hB.size
      clear hB
      go_wp2_with (go_at_call 30; refine (within_street_new _ _ _ _).mono ?_; rintro e w' ⟨rfl, hb⟩)
      go_ret
      exact ⟨ret_bool (by simp; omega), HB.out.trans (hb.mono hsz)⟩
theorem isHour_street (n : Int) (w : World) :
    Calls Try.prog 24 #[.int .i64 n] w fun e w' => e = .returned (.bool (decide (0 ≤ n) && decide (n ≤ 1000))) ∧ Below w.heap.size w w' := by
  go_enter Try.func24, Try.ntmps24
  go_wp2_with (go_at_call 30; refine (within_street_new _ _ _ _).mono ?_; rintro e w' ⟨rfl, hb⟩)
  go_ret
  exact ⟨rfl, hb⟩
theorem isHour_yes (n : Int) (h1 : 0 ≤ n) (h2 : n ≤ 1000) (w : World) :
    Calls Try.prog 24 #[.int .i64 n] w fun e w' => e = .returned (.bool true) ∧ Below w.heap.size w w' :=
  (isHour_street n w).mono fun e w' ⟨he, hb⟩ => ⟨by rw [he]; simp [h1, h2], hb⟩
/-- A change of some streets is valid. -/
structure OkChange (n : Nat) (c : S32) : Prop where
  at1 : 1 ≤ c.f0
  at2 : c.f0 ≤ 1000
  st1 : 0 ≤ c.f1
  st2 : c.f1 < n
  nm : IsNm c.f2
set_option maxHeartbeats 1000000 in
theorem isChange_ok (n : Nat) (hn : n ≤ 6) (c : S32) (hc : OkChange n c) (w : World) :
    Calls Try.prog 29 #[.agg #[.int .i64 c.f0, .int .i64 c.f1, .string c.f2], .int .i64 n] w fun e w' => e = .returned (.bool true) ∧ Below w.heap.size w w' := by
  obtain ⟨h1, h2, h3, h4, h5⟩ := hc
  obtain ⟨a, s, nm⟩ := c
  simp only at h1 h2 h3 h4 h5 ⊢
  have h4' : s ≤ (n : Int) - 1 := by omega
  go_enter Try.func29, Try.ntmps29
  go_wp2_with fail
  refine (within_street_1y _ _ _ _ _ h1 h2 (by simp)).mono ?_
  rintro e w1 ⟨rfl, hb1⟩
  have hs1 : w.heap.size < w1.heap.size := Nat.lt_of_lt_of_le (by simp; omega) hb1.size
  have q1 : w1.cell? ⟨w.heap.size, 1, none⟩ = some (.int .i64 s) := (hb1.cell (p := ⟨w.heap.size, 1, none⟩) (by simp; omega)).trans (by simp)
  have q2 : w1.cell? ⟨w.heap.size, 2, none⟩ = some (.string nm) := (hb1.cell (p := ⟨w.heap.size, 2, none⟩) (by simp; omega)).trans (by simp)
  go_wp2_with fail
  refine (within_street_1y _ _ _ _ _ h3 h4' (by simp)).mono ?_
  rintro e w2 ⟨rfl, hb2⟩
  have q3 : w2.cell? ⟨w.heap.size, 2, none⟩ = some (.string nm) := (hb2.cell (p := ⟨w.heap.size, 2, none⟩) (by simp; omega)).trans ((World.cell?_alloc_lt _ _ _ hs1).trans q2)
  go_wp2_with fail
  refine (isName_street nm h5 _).mono ?_
  rintro e w3 ⟨rfl, hb3⟩
  go_wp2
  go_ret
  have B1 : Below w.heap.size w w1 := (((Below.refl _ w).alloc (Nat.le_refl _) _).alloc (by simp) _).trans (hb1.mono (by simp; omega))
  have B2 := (B1.alloc (Nat.le_of_lt hs1) _).trans (hb2.mono (by simp; omega))
  exact ⟨rfl, B2.trans (hb3.mono B2.size)⟩
end Go.Proofs.Ytfbndhhogpacmaa
/-! How often things stand in a list: the plain side of street.twins. -/
namespace Go.Proofs.Ytfbndhhogpacmaa
open Go.RowKit Go.WideMaps Go.Maps
set_option linter.unusedVariables false
set_option linter.unusedSimpArgs false
section
variable {α : Type} [DecidableEq α]
/-- How often x stands in a list. -/
def cnt (xs : List α) (x : α) : Nat := xs.countP fun y => decide (y = x)
theorem cnt_le (xs : List α) (x : α) : cnt xs x ≤ xs.length := List.countP_le_length
theorem cnt_append (xs ys : List α) (x : α) : cnt (xs ++ ys) x = cnt xs x + cnt ys x := List.countP_append
theorem cnt_take_succ (xs : List α) (k : Nat) (hk : k < xs.length) (x : α) : cnt (xs.take (k + 1)) x = cnt (xs.take k) x + if xs[k] = x then 1 else 0 := by
  rw [List.take_succ_eq_append_getElem hk, cnt_append]
  congr 1
  unfold cnt
  by_cases h : xs[k] = x <;> simp [h]
/-- The map behind k rounds. -/
def mapD (kl : α → Lit) (xs : List α) : Nat → DataW Unit
  | 0 => .map []
  | k + 1 => match xs[k]? with
    | some x => (mapD kl xs k).put (kl x) (.lit (.int .i64 (cnt (xs.take (k + 1)) x)))
    | none => mapD kl xs k
theorem mapD_succ (kl : α → Lit) (xs : List α) (k : Nat) (hk : k < xs.length) : mapD kl xs (k + 1) = (mapD kl xs k).put (kl xs[k]) (.lit (.int .i64 (cnt (xs.take (k + 1)) xs[k]))) := by
  rw [mapD, List.getElem?_eq_getElem hk]
theorem mapD_at (kl : α → Lit) (inj : ∀ x y, kl x = kl y → x = y) (hkl : ∀ x, WideAt.IsKeyLit (kl x)) (xs : List α) : ∀ k, k ≤ xs.length →
    IsMap (mapD kl xs k) ∧ ∀ y, (mapD kl xs k).atKey (kl y) (.lit (.int .i64 0)) = .lit (.int .i64 (cnt (xs.take k) y))
  | 0, _ => ⟨tidy_empty.isMap, fun y => by simp [mapD, cnt, DataW.atKey]⟩
  | k + 1, h => by
    obtain ⟨hm, ha⟩ := mapD_at kl inj hkl xs k (by omega)
    have hk : k < xs.length := by omega
    rw [mapD_succ kl xs k hk]
    refine ⟨hm.put _ _, fun y => ?_⟩
    by_cases hy : xs[k] = y
    · subst hy
      rw [atKey_put_same hm (hkl _)]
    · rw [atKey_put_other (fun e => hy (inj _ _ e).symm), ha, cnt_take_succ xs k hk, if_neg hy]
      rfl
/-- The places, below k, of what stands twice. -/
def twK (z : α) (xs : List α) (k : Nat) : List Nat := (List.range k).filter fun i => decide (1 < cnt xs (xs.getD i z))
def twins (z : α) (xs : List α) : List Nat := twK z xs xs.length
theorem twK_succ (z : α) (xs : List α) (k : Nat) : twK z xs (k + 1) = twK z xs k ++ if 1 < cnt xs (xs.getD k z) then [k] else [] := by
  unfold twK
  rw [List.range_succ, List.filter_append]
  congr 1
  rw [List.filter_cons, List.filter_nil]
  by_cases h : 1 < cnt xs (xs.getD k z)
  · rw [if_pos h, if_pos (by simpa using h)]
  · rw [if_neg h, if_neg (by simpa using h)]
theorem twK_length (z : α) (xs : List α) (k : Nat) : (twK z xs k).length ≤ k := by
  have := List.length_filter_le (fun i => decide (1 < cnt xs (xs.getD i z))) (List.range k)
  simpa [twK] using this
theorem twins_nodup (z : α) (xs : List α) (h : xs.Nodup) : twins z xs = [] := by
  unfold twins twK
  rw [List.filter_eq_nil_iff]
  intro i hi
  rw [List.mem_range] at hi
  have hc : cnt xs (xs.getD i z) ≤ 1 := by
    generalize xs.getD i z = x
    clear hi
    induction xs with
    | nil => simp [cnt]
    | cons y r ih =>
      rw [List.nodup_cons] at h
      have := ih h.2
      unfold cnt at this ⊢
      rw [List.countP_cons]
      by_cases hy : y = x
      · subst hy
        have h0 : List.countP (fun z => decide (z = y)) r = 0 := by
          rw [List.countP_eq_zero]
          intro a ha
          simp only [decide_eq_true_eq]
          rintro rfl
          exact h.1 ha
        simp [h0]
      · simpa [hy] using this
  simp only [decide_eq_true_eq]
  omega
end
def ints (l : List Nat) : List Int := l.map fun (i : Nat) => (i : Int)
theorem ints_length (l : List Nat) : (ints l).length = l.length := by simp [ints]
theorem ints_append (a b : List Nat) : ints (a ++ b) = ints a ++ ints b := by simp [ints]
end Go.Proofs.Ytfbndhhogpacmaa
/-! street.twins at strings and at ints: proved by hand. -/
namespace Go.Proofs.Ytfbndhhogpacmaa
open Go.RowKit Go.Shelf Go.WideMaps Go.Maps
open Go.Proofs.YtfbndhhogpacmaaW.PrintWords Go.Proofs.Ytfbndhhogpacmaa.T
set_option linter.unusedVariables false
set_option linter.unusedSimpArgs false
theorem zeroInt (w : World) : (zeroValue 3).run Try.prog w = .ok (.int .i64 0) w := by kernel_rfl
theorem infoInt : (Try.prog.info? 3).map (fun i => (i.zero, i.size, i.bytes)) = some (some (.int .i64 0), 1, 8) := by kernel_rfl
def klStr (s : ByteArray) : Lit := .string s.data.toList
def klInt (n : Int) : Lit := .int .i64 n
theorem klStr_inj (x y : ByteArray) (h : klStr x = klStr y) : x = y := by
  unfold klStr at h
  injection h with h
  cases x
  cases y
  congr 1
  exact Array.toList_inj.1 h
theorem klInt_inj (x y : Int) (h : klInt x = klInt y) : x = y := by
  unfold klInt at h
  injection h
set_option maxRecDepth 100000 in
set_option maxHeartbeats 2000000 in
theorem twins_str (A : Option Addr) (c : Nat) (xs : List ByteArray) (w : World) (hr : (Kd.string).C w A xs.length xs) (hx : ∀ x ∈ xs, x.size ≤ maxLen) (hlen : xs.length ≤ 1000) :
    Calls Try.prog 32 #[.slice A xs.length c] w fun e w' => ∃ v, e = .returned v ∧ w'.ownsRow w.heap.size 3 1 v (ints (twins ByteArray.empty xs)).length (nums .i64 (ints (twins ByteArray.empty xs))) ∧ (twins ByteArray.empty xs = [] → v = .slice none 0 0) ∧ Below w.heap.size w w' := by
  have HR := Aside0.mk hr
  have HX := Aside0.mk hx
  clear hr hx
  have hmm := @run_makeMap Try.prog
  have law : Keyed Try.prog 9 := string_keyed Try.underlying9
  have HD := Aside0.mk (mapD_at klStr klStr_inj (fun _ => trivial) xs)
  go_enter Try.func32, Try.ntmps32
  go_wp2
  go_loopw [5, 11] (fun _ i wr => ∃ k : Nat, k ≤ xs.length ∧ i = .int .i64 k ∧ wr.ownsMap Try.prog 9 (plainElem Try.prog 3) w.heap.size k (mapD klStr xs k) ∧ Below w.heap.size w wr)
    (fun _ i _ => xs.length - (intOf i).toNat)
  case atStart => exact ⟨0, Nat.zero_le _, rfl, World.ownsMap_made _ _ _ _, (Below.refl _ _).alloc (Nat.le_refl _) _⟩
  case round =>
    obtain ⟨k, hk, rfl, hown, hB⟩ := hrel
    have HO := Aside0.mk hown
    have HB := Aside0.mk hB
    have hsz := hB.size
    clear hown hB
    by_cases hlt : k < xs.length
    · have hltz : (k : Int) < (xs.length : Int) := by omega
      obtain ⟨ad, eA, hcell⟩ := C_str_at (Kd.C_below HR.out HB.out) k hlt
      subst eA
      rw [getD_at xs k _ hlt] at hcell
      have hmem : xs[k] ∈ xs := List.getElem_mem hlt
      have hkey : keyOf Try.prog 9 (.string xs[k]) = some (klStr xs[k]) := keyOf_string_mk Try.underlying9 (HX.out _ hmem)
      have hat0 := (HD.out k (by omega)).2 xs[k]
      have hs0 := mapD_succ klStr xs k hlt
      have hc0 := cnt_take_succ xs k hlt xs[k]
      rw [if_pos rfl] at hc0
      have hcl := cnt_le (xs.take k) xs[k]
      have hcl2 : (xs.take k).length ≤ k := List.length_take_le _ _
      generalize hcn : cnt (xs.take k) xs[k] = n at hat0 hc0 hcl
      have HS := Aside0.mk hs0
      have HC0 := Aside0.mk hc0
      have HAT := Aside0.mk hat0
      have hn : n ≤ 1000 := by omega
      clear hs0 hc0 hat0 hcn hmem
      generalize xs[k] = x at hcell hkey HS HC0 HAT
      have HKEY := Aside0.mk hkey
      clear hkey
      go_wp2_with (first
        | (at_lookup; refine wpList_lookup_own_int _ rfl _ _ 116 rfl 9 3 .i64 law Try.underlying116 Try.underlying3 (zeroInt _) w.heap.size k _ rfl HO.out _ _ rfl HKEY.out ?_; intro c hat hwc; obtain rfl : (n : Int) = c := (by have h_ := HAT.out.symm.trans hat; injection h_ with h_; injection h_); clear hat hwc)
        | (at_mapUpdate; refine wpList_mapUpdate_own _ rfl _ _ _ 116 rfl 9 3 law Try.underlying116 _ w.heap.size k _ rfl HO.out (by unfold maxLen; omega) _ _ _ rfl rfl HKEY.out _ [] (plainElem_int Try.underlying3 (WalkArith.wf_i64 (by omega))) ?_; intro w1 hown1 hgrow1; have HO1 := Aside0.mk hown1; have HG1 := Aside0.mk hgrow1; clear hown1 hgrow1))
      go_roundw
      case rel => exact ⟨k + 1, by omega, by go_num, by rw [HS.out, HC0.out]; exact HO1.out, HB.out.grown HG1.out hsz (fun j hj => by cases hj; exact Nat.le_refl _)⟩
      case measure => simp [intOf]; omega
    · have hltz : ¬ (k : Int) < (xs.length : Int) := by omega
      obtain rfl : k = xs.length := by omega
      obtain ⟨wm, rfl⟩ : ∃ wm : World, wm = wr := ⟨_, rfl⟩
      have HOWN := Aside0.mk (HO.out)
      clear HO
      have hbm : w.heap.size < wm.heap.size := HOWN.out.lt
      go_wp2
      go_loopw [2, 6, 7, 22] (fun v _ _ i wr => ∃ k : Nat, k ≤ xs.length ∧ i = .int .i64 k ∧ Aside0 (wr.ownsRow wm.heap.size 3 1 v (ints (twK ByteArray.empty xs k)).length (nums .i64 (ints (twK ByteArray.empty xs k)))) ∧ Aside0 (twK ByteArray.empty xs k = [] → v = .slice none 0 0) ∧ Aside0 (Below wm.heap.size wm wr))
        (fun _ _ _ i _ => xs.length - (intOf i).toNat)
      case atStart => exact ⟨0, Nat.zero_le _, rfl, ⟨own_nil _ _ _ _⟩, ⟨fun _ => rfl⟩, ⟨Below.refl _ _⟩⟩
      case round =>
        obtain ⟨k, hk, rfl, HV, HN, HW⟩ := hrel
        have hszw := HW.out.size
        by_cases hlt : k < xs.length
        · have hltz : (k : Int) < (xs.length : Int) := by omega
          obtain ⟨ad, eA, hcell⟩ := C_str_at (Kd.C_below (Kd.C_below HR.out HB.out) HW.out) k hlt
          subst eA
          have HTW := Aside0.mk (twK_succ ByteArray.empty xs k)
          have hll := twK_length ByteArray.empty xs k
          have hmem : xs.getD k ByteArray.empty ∈ xs := by rw [getD_at xs k _ hlt]; exact List.getElem_mem hlt
          have hkey : keyOf Try.prog 9 (.string (xs.getD k ByteArray.empty)) = some (klStr (xs.getD k ByteArray.empty)) := keyOf_string_mk Try.underlying9 (HX.out _ hmem)
          have hat0 := (HD.out xs.length (Nat.le_refl _)).2 (xs.getD k ByteArray.empty)
          rw [List.take_length] at hat0
          have hcl := cnt_le xs (xs.getD k ByteArray.empty)
          have HAT := Aside0.mk hat0
          have HKEY := Aside0.mk hkey
          clear hat0 hkey hmem
          generalize xs.getD k ByteArray.empty = x at hcell HKEY HAT HTW hcl
          generalize cnt xs x = n at HAT hcl HTW
          have HM : Aside0 (wr.ownsMap Try.prog 9 (plainElem Try.prog 3) w.heap.size xs.length (mapD klStr xs xs.length)) := ⟨HOWN.out.kept (grown_of_below HW.out none) (by simp)⟩
          have hn : n ≤ 1000 := by omega
          by_cases h1 : 1 < n
          · have h1z : (1 : Int) < (n : Int) := by omega
            have HTW2 : Aside0 (twK ByteArray.empty xs (k + 1) = twK ByteArray.empty xs k ++ [k]) := ⟨by rw [HTW.out, if_pos h1]⟩
            clear HTW
            go_wp2_with (first
              | (at_lookup; refine wpList_lookup_own_int _ rfl _ _ 116 rfl 9 3 .i64 law Try.underlying116 Try.underlying3 (zeroInt _) w.heap.size xs.length _ rfl HM.out _ _ rfl HKEY.out ?_; intro c hat hwc; obtain rfl : (n : Int) = c := (by have h_ := HAT.out.symm.trans hat; injection h_ with h_; injection h_); clear hat hwc)
              | (at_builtin; refine print_append_num wm.heap.size rfl _ _ 34 3 .i64 8 rfl Try.underlying34 infoInt (by decide) u2 (ints (twK ByteArray.empty xs k)) (k : Int) rfl rfl HV.out HW.out hszw (by rw [ints_length]; omega) ?_; intro v1 w1 hv1 hb1 _ _; have HV1 := Aside0.mk hv1; have HW1 := Aside0.mk hb1; clear hv1 hb1))
            go_roundw
            case rel =>
              refine ⟨k + 1, by omega, by go_num, ⟨by rw [HTW2.out, ints_append]; exact HV1.out⟩, ⟨fun h => ?_⟩, ⟨HW1.out⟩⟩
              rw [HTW2.out] at h
              simp at h
            case measure => simp [intOf]; omega
          · have h1z : ¬ (1 : Int) < (n : Int) := by omega
            have HTW2 : Aside0 (twK ByteArray.empty xs (k + 1) = twK ByteArray.empty xs k) := ⟨by rw [HTW.out, if_neg h1, List.append_nil]⟩
            clear HTW
            go_wp2_with (first
              | (at_lookup; refine wpList_lookup_own_int _ rfl _ _ 116 rfl 9 3 .i64 law Try.underlying116 Try.underlying3 (zeroInt _) w.heap.size xs.length _ rfl HM.out _ _ rfl HKEY.out ?_; intro c hat hwc; obtain rfl : (n : Int) = c := (by have h_ := HAT.out.symm.trans hat; injection h_ with h_; injection h_); clear hat hwc))
            go_roundw
            case rel => exact ⟨k + 1, by omega, by go_num, ⟨by rw [HTW2.out]; exact HV.out⟩, ⟨fun h => HN.out (by rw [← HTW2.out]; exact h)⟩, ⟨HW.out⟩⟩
            case measure => simp [intOf]; omega
        · have hltz : ¬ (k : Int) < (xs.length : Int) := by omega
          obtain rfl : k = xs.length := by omega
          go_wp2
          go_ret
          exact ⟨_, rfl, own_weaken HV.out (Nat.le_of_lt hbm), HN.out, HB.out.trans (HW.out.mono hsz)⟩
set_option maxRecDepth 100000 in
set_option maxHeartbeats 2000000 in
theorem twins_int (A : Option Addr) (c : Nat) (xs : List Int) (w : World) (hr : ((Kd.int .i64)).C w A xs.length xs) (hx : ∀ x ∈ xs, (Lit.int .i64 x).wf = true) (hlen : xs.length ≤ 1000) :
    Calls Try.prog 39 #[.slice A xs.length c] w fun e w' => ∃ v, e = .returned v ∧ w'.ownsRow w.heap.size 3 1 v (ints (twins (0 : Int) xs)).length (nums .i64 (ints (twins (0 : Int) xs))) ∧ (twins (0 : Int) xs = [] → v = .slice none 0 0) ∧ Below w.heap.size w w' := by
  have HR := Aside0.mk hr
  have HX := Aside0.mk hx
  clear hr hx
  have hmm := @run_makeMap Try.prog
  have law : Keyed Try.prog 3 := int_keyed Try.underlying3
  have HD := Aside0.mk (mapD_at klInt klInt_inj (fun _ => trivial) xs)
  go_enter Try.func39, Try.ntmps39
  go_wp2
  go_loopw [5, 11] (fun _ i wr => ∃ k : Nat, k ≤ xs.length ∧ i = .int .i64 k ∧ wr.ownsMap Try.prog 3 (plainElem Try.prog 3) w.heap.size k (mapD klInt xs k) ∧ Below w.heap.size w wr)
    (fun _ i _ => xs.length - (intOf i).toNat)
  case atStart => exact ⟨0, Nat.zero_le _, rfl, World.ownsMap_made _ _ _ _, (Below.refl _ _).alloc (Nat.le_refl _) _⟩
  case round =>
    obtain ⟨k, hk, rfl, hown, hB⟩ := hrel
    have HO := Aside0.mk hown
    have HB := Aside0.mk hB
    have hsz := hB.size
    clear hown hB
    by_cases hlt : k < xs.length
    · have hltz : (k : Int) < (xs.length : Int) := by omega
      obtain ⟨ad, eA, hcell⟩ := C_int_at (Kd.C_below HR.out HB.out) k hlt
      subst eA
      rw [getD_at xs k _ hlt] at hcell
      have hmem : xs[k] ∈ xs := List.getElem_mem hlt
      have hkey : keyOf Try.prog 3 (.int .i64 xs[k]) = some (klInt xs[k]) := keyOf_int_mk Try.underlying3 (HX.out _ hmem)
      have hat0 := (HD.out k (by omega)).2 xs[k]
      have hs0 := mapD_succ klInt xs k hlt
      have hc0 := cnt_take_succ xs k hlt xs[k]
      rw [if_pos rfl] at hc0
      have hcl := cnt_le (xs.take k) xs[k]
      have hcl2 : (xs.take k).length ≤ k := List.length_take_le _ _
      generalize hcn : cnt (xs.take k) xs[k] = n at hat0 hc0 hcl
      have HS := Aside0.mk hs0
      have HC0 := Aside0.mk hc0
      have HAT := Aside0.mk hat0
      have hn : n ≤ 1000 := by omega
      clear hs0 hc0 hat0 hcn hmem
      generalize xs[k] = x at hcell hkey HS HC0 HAT
      have HKEY := Aside0.mk hkey
      clear hkey
      go_wp2_with (first
        | (at_lookup; refine wpList_lookup_own_int _ rfl _ _ 120 rfl 3 3 .i64 law Try.underlying120 Try.underlying3 (zeroInt _) w.heap.size k _ rfl HO.out _ _ rfl HKEY.out ?_; intro c hat hwc; obtain rfl : (n : Int) = c := (by have h_ := HAT.out.symm.trans hat; injection h_ with h_; injection h_); clear hat hwc)
        | (at_mapUpdate; refine wpList_mapUpdate_own _ rfl _ _ _ 120 rfl 3 3 law Try.underlying120 _ w.heap.size k _ rfl HO.out (by unfold maxLen; omega) _ _ _ rfl rfl HKEY.out _ [] (plainElem_int Try.underlying3 (WalkArith.wf_i64 (by omega))) ?_; intro w1 hown1 hgrow1; have HO1 := Aside0.mk hown1; have HG1 := Aside0.mk hgrow1; clear hown1 hgrow1))
      go_roundw
      case rel => exact ⟨k + 1, by omega, by go_num, by rw [HS.out, HC0.out]; exact HO1.out, HB.out.grown HG1.out hsz (fun j hj => by cases hj; exact Nat.le_refl _)⟩
      case measure => simp [intOf]; omega
    · have hltz : ¬ (k : Int) < (xs.length : Int) := by omega
      obtain rfl : k = xs.length := by omega
      obtain ⟨wm, rfl⟩ : ∃ wm : World, wm = wr := ⟨_, rfl⟩
      have HOWN := Aside0.mk (HO.out)
      clear HO
      have hbm : w.heap.size < wm.heap.size := HOWN.out.lt
      go_wp2
      go_loopw [2, 6, 7, 22] (fun v _ _ i wr => ∃ k : Nat, k ≤ xs.length ∧ i = .int .i64 k ∧ Aside0 (wr.ownsRow wm.heap.size 3 1 v (ints (twK (0 : Int) xs k)).length (nums .i64 (ints (twK (0 : Int) xs k)))) ∧ Aside0 (twK (0 : Int) xs k = [] → v = .slice none 0 0) ∧ Aside0 (Below wm.heap.size wm wr))
        (fun _ _ _ i _ => xs.length - (intOf i).toNat)
      case atStart => exact ⟨0, Nat.zero_le _, rfl, ⟨own_nil _ _ _ _⟩, ⟨fun _ => rfl⟩, ⟨Below.refl _ _⟩⟩
      case round =>
        obtain ⟨k, hk, rfl, HV, HN, HW⟩ := hrel
        have hszw := HW.out.size
        by_cases hlt : k < xs.length
        · have hltz : (k : Int) < (xs.length : Int) := by omega
          obtain ⟨ad, eA, hcell⟩ := C_int_at (Kd.C_below (Kd.C_below HR.out HB.out) HW.out) k hlt
          subst eA
          have HTW := Aside0.mk (twK_succ (0 : Int) xs k)
          have hll := twK_length (0 : Int) xs k
          have hmem : xs.getD k (0 : Int) ∈ xs := by rw [getD_at xs k _ hlt]; exact List.getElem_mem hlt
          have hkey : keyOf Try.prog 3 (.int .i64 (xs.getD k (0 : Int))) = some (klInt (xs.getD k (0 : Int))) := keyOf_int_mk Try.underlying3 (HX.out _ hmem)
          have hat0 := (HD.out xs.length (Nat.le_refl _)).2 (xs.getD k (0 : Int))
          rw [List.take_length] at hat0
          have hcl := cnt_le xs (xs.getD k (0 : Int))
          have HAT := Aside0.mk hat0
          have HKEY := Aside0.mk hkey
          clear hat0 hkey hmem
          generalize xs.getD k (0 : Int) = x at hcell HKEY HAT HTW hcl
          generalize cnt xs x = n at HAT hcl HTW
          have HM : Aside0 (wr.ownsMap Try.prog 3 (plainElem Try.prog 3) w.heap.size xs.length (mapD klInt xs xs.length)) := ⟨HOWN.out.kept (grown_of_below HW.out none) (by simp)⟩
          have hn : n ≤ 1000 := by omega
          by_cases h1 : 1 < n
          · have h1z : (1 : Int) < (n : Int) := by omega
            have HTW2 : Aside0 (twK (0 : Int) xs (k + 1) = twK (0 : Int) xs k ++ [k]) := ⟨by rw [HTW.out, if_pos h1]⟩
            clear HTW
            go_wp2_with (first
              | (at_lookup; refine wpList_lookup_own_int _ rfl _ _ 120 rfl 3 3 .i64 law Try.underlying120 Try.underlying3 (zeroInt _) w.heap.size xs.length _ rfl HM.out _ _ rfl HKEY.out ?_; intro c hat hwc; obtain rfl : (n : Int) = c := (by have h_ := HAT.out.symm.trans hat; injection h_ with h_; injection h_); clear hat hwc)
              | (at_builtin; refine print_append_num wm.heap.size rfl _ _ 34 3 .i64 8 rfl Try.underlying34 infoInt (by decide) u2 (ints (twK (0 : Int) xs k)) (k : Int) rfl rfl HV.out HW.out hszw (by rw [ints_length]; omega) ?_; intro v1 w1 hv1 hb1 _ _; have HV1 := Aside0.mk hv1; have HW1 := Aside0.mk hb1; clear hv1 hb1))
            go_roundw
            case rel =>
              refine ⟨k + 1, by omega, by go_num, ⟨by rw [HTW2.out, ints_append]; exact HV1.out⟩, ⟨fun h => ?_⟩, ⟨HW1.out⟩⟩
              rw [HTW2.out] at h
              simp at h
            case measure => simp [intOf]; omega
          · have h1z : ¬ (1 : Int) < (n : Int) := by omega
            have HTW2 : Aside0 (twK (0 : Int) xs (k + 1) = twK (0 : Int) xs k) := ⟨by rw [HTW.out, if_neg h1, List.append_nil]⟩
            clear HTW
            go_wp2_with (first
              | (at_lookup; refine wpList_lookup_own_int _ rfl _ _ 120 rfl 3 3 .i64 law Try.underlying120 Try.underlying3 (zeroInt _) w.heap.size xs.length _ rfl HM.out _ _ rfl HKEY.out ?_; intro c hat hwc; obtain rfl : (n : Int) = c := (by have h_ := HAT.out.symm.trans hat; injection h_ with h_; injection h_); clear hat hwc))
            go_roundw
            case rel => exact ⟨k + 1, by omega, by go_num, ⟨by rw [HTW2.out]; exact HV.out⟩, ⟨fun h => HN.out (by rw [← HTW2.out]; exact h)⟩, ⟨HW.out⟩⟩
            case measure => simp [intOf]; omega
        · have hltz : ¬ (k : Int) < (xs.length : Int) := by omega
          obtain rfl : k = xs.length := by omega
          go_wp2
          go_ret
          exact ⟨_, rfl, own_weaken HV.out (Nat.le_of_lt hbm), HN.out, HB.out.trans (HW.out.mono hsz)⟩
end Go.Proofs.Ytfbndhhogpacmaa
/-! street.Check at a valid town: proved by hand. -/
namespace Go.Proofs.Ytfbndhhogpacmaa
open Go.RowKit Go.Shelf
open Go.Proofs.YtfbndhhogpacmaaW.PrintWords Go.Proofs.Ytfbndhhogpacmaa.T
set_option linter.unusedVariables false
set_option linter.unusedSimpArgs false
/-- A town that is valid; its changes come one after another. -/
structure OkTown (first : List ByteArray) (chg : List S32) : Prop where
  n1 : 1 ≤ first.length
  n2 : first.length ≤ 6
  nm : ∀ s ∈ first, IsNm s
  nd : first.Nodup
  c1 : chg.length ≤ 8
  ch : ∀ c ∈ chg, OkChange first.length c
  up : chg.Pairwise fun a b => a.f0 < b.f0
theorem Check1_ok (s : ByteArray) (hs : IsNm s) (w : World) :
    Calls Try.prog 27 #[.string s] w fun e w' => e = .returned (.bool false) ∧ Below w.heap.size w w' := by
  go_enter Try.func27, Try.ntmps27
  go_wp2_with (go_at_call 23; refine (isName_street s hs _).mono ?_; rintro e w' ⟨rfl, hb⟩)
  go_ret
  exact ⟨rfl, hb⟩
theorem Check2_ok (n : Nat) (hn : n ≤ 6) (c : S32) (hc : OkChange n c) (b : Nat) (A : Option Addr) (k : Nat) (w : World) (hb : b < w.heap.size) (ha : w.cell? ⟨b, 0, none⟩ = some (.slice A n k)) :
    Calls Try.prog 28 #[.agg #[.int .i64 c.f0, .int .i64 c.f1, .string c.f2], .pointer (some ⟨b, 0, none⟩)] w fun e w' => e = .returned (.bool false) ∧ Below w.heap.size w w' := by
  have HC := Lib.hid (isChange_ok n hn c hc)
  obtain ⟨a, s, nm⟩ := c
  have hq : (w.alloc (.cells #[.int .i64 a, .int .i64 s, .string nm] 32)).cell? ⟨b, 0, none⟩ = some (.slice A n k) := (World.cell?_alloc_lt _ _ _ hb).trans ha
  go_enter Try.func28, Try.ntmps28
  go_wp2_with (go_at_call 29; refine (HC.out _).mono ?_; rintro e w' ⟨rfl, hb⟩)
  go_ret
  exact ⟨rfl, ((Below.refl _ w).alloc (Nat.le_refl _) _).trans (hb.mono (by simp))⟩
set_option maxHeartbeats 1000000 in
theorem Check_street (A1 A2 : Option Addr) (k1 k2 : Nat) (first : List ByteArray) (chg : List S32) (w : World) (h1 : Kd.string.C w A1 first.length first) (h2 : k32.C w A2 chg.length chg) (ok : OkTown first chg) :
    Calls Try.prog 14 #[.agg #[.slice A1 first.length k1, .slice A2 chg.length k2]] w fun e w' => e = .returned (.int .i64 0) ∧ Below w.heap.size w w' := by
  have hn1 := ok.n1
  have hn2 := ok.n2
  have hc1 := ok.c1
  have HOK := Aside0.mk ok
  clear ok
  have H1 := Aside0.mk h1
  have H2 := Aside0.mk h2
  clear h1 h2
  go_enter Try.func14, Try.ntmps14
  go_wp2_with fail
  have B0 : Below w.heap.size w (w.alloc (.cells #[.slice A1 first.length k1, .slice A2 chg.length k2] 27)) := (Below.refl _ w).alloc (Nat.le_refl _) _
  refine (within_street_1y 1 6 (first.length : Int) _ _ (by omega) (by omega) (by simp)).mono ?_
  rintro e w1 ⟨rfl, hb1⟩
  have HB1 : Aside0 (Below w.heap.size w w1) := ⟨(B0.alloc (by simp) _).trans (hb1.mono (by simp; omega))⟩
  have hs1 : w.heap.size < w1.heap.size := Nat.lt_of_lt_of_le (by simp; omega) hb1.size
  have p1 : w1.cell? ⟨w.heap.size, 0, none⟩ = some (.slice A1 first.length k1) := (hb1.cell (p := ⟨w.heap.size, 0, none⟩) (by simp; omega)).trans (by simp)
  have p2 : w1.cell? ⟨w.heap.size, 1, none⟩ = some (.slice A2 chg.length k2) := (hb1.cell (p := ⟨w.heap.size, 1, none⟩) (by simp; omega)).trans (by simp)
  clear hb1
  go_wp2_with fail
  refine (ContainsFunc_str 27 #[] (enters_of Try.func27 (by kernel_rfl) rfl) (fun _ => false) A1 k1 first w1 ?_ (Kd.C_below H1.out HB1.out)).mono ?_
  · intro W x cs hx _ hK
    obtain rfl : cs = [.string x] := hK
    exact (Check1_ok x (HOK.out.nm x hx) W)
  rintro e w2 ⟨rfl, hb2⟩
  have HB2 : Aside0 (Below w.heap.size w w2) := ⟨HB1.out.trans (hb2.mono HB1.out.size)⟩
  have hs2 : w.heap.size < w2.heap.size := Nat.lt_of_lt_of_le hs1 hb2.size
  have q1 : w2.cell? ⟨w.heap.size, 0, none⟩ = some (.slice A1 first.length k1) := (hb2.cell (p := ⟨w.heap.size, 0, none⟩) hs1).trans p1
  have q2 : w2.cell? ⟨w.heap.size, 1, none⟩ = some (.slice A2 chg.length k2) := (hb2.cell (p := ⟨w.heap.size, 1, none⟩) hs1).trans p2
  clear hb2 p1 p2 HB1
  have hany : (first.any fun _ => false) = false := by simp
  rw [hany]
  clear hany
  go_wp2_with fail
  refine (twins_str A1 k1 first w2 (Kd.C_below H1.out HB2.out) (fun x hx => by have := (HOK.out.nm x hx).2.1; unfold maxLen; omega) (by omega)).mono ?_
  rintro e w3 ⟨v, rfl, _, hv, hb3⟩
  obtain rfl := hv (twins_nodup _ _ HOK.out.nd)
  clear hv
  have HB3 : Aside0 (Below w.heap.size w w3) := ⟨HB2.out.trans (hb3.mono HB2.out.size)⟩
  have hs3 : w.heap.size < w3.heap.size := Nat.lt_of_lt_of_le hs2 hb3.size
  have r1 : w3.cell? ⟨w.heap.size, 0, none⟩ = some (.slice A1 first.length k1) := (hb3.cell (p := ⟨w.heap.size, 0, none⟩) hs2).trans q1
  have r2 : w3.cell? ⟨w.heap.size, 1, none⟩ = some (.slice A2 chg.length k2) := (hb3.cell (p := ⟨w.heap.size, 1, none⟩) hs2).trans q2
  clear hb3 q1 q2 HB2
  go_wp2_with fail
  refine (ContainsFunc_T32 28 #[.pointer (some ⟨w.heap.size, 0, none⟩)] (enters_of Try.func28 (by kernel_rfl) rfl) (fun _ => false) A2 k2 chg w3 ?_ (Kd.C_below H2.out HB3.out)).mono ?_
  · intro W x cs hx hW hK
    obtain rfl := k32_open hK
    exact Check2_ok first.length hn2 x (HOK.out.ch x hx) w.heap.size A1 k1 W (Nat.lt_of_lt_of_le hs3 hW.size) ((hW.cell (p := ⟨w.heap.size, 0, none⟩) hs3).trans r1)
  rintro e w4 ⟨rfl, hb4⟩
  have hany : (chg.any fun _ => false) = false := by simp
  rw [hany]
  clear hany
  go_wp2
  go_ret
  exact ⟨rfl, HB3.out.trans (hb4.mono HB3.out.size)⟩
end Go.Proofs.Ytfbndhhogpacmaa
/-! slices.Values at changes: the iterator. -/
namespace Go.Proofs.Ytfbndhhogpacmaa
open Go.RowKit Go.Shelf
open Go.Proofs.YtfbndhhogpacmaaW.PrintWords Go.Proofs.Ytfbndhhogpacmaa.T
set_option linter.unusedVariables false
set_option linter.unusedSimpArgs false
attribute [local go_sem] Oper.semAt_some
def enc3 (x : S32) : Value := .agg #[.int .i64 x.f0, .int .i64 x.f1, .string x.f2]
set_option maxRecDepth 100000 in
set_option maxHeartbeats 2000000 in
theorem values1_in (F : Fence) (n : Nat) (hf : F.fn 52) (hro : F.round = none) (hn : 1 ≤ n) (l Bs : Nat) (w0 : World) (A : Option Addr) (cap : Nat) (zs : List S32) (hlen : zs.length ≤ 1000) (hC : k32.C w0 A zs.length zs) (J Jx : List S32 → World → Prop)
    (hY : ∀ pre x W, J pre W → pre.length < zs.length → YieldAt F (n - 1) Try.prog l #[enc3 x] W fun e W' =>
      (e = .returned (.bool true) ∧ J (pre ++ [x]) W' ∧ Below w0.heap.size W W') ∨ (e = .returned (.bool false) ∧ Jx (pre ++ [x]) W'))
    (W : World) (hJ : AbidesFrom W.heap.size J) (hB0 : Below w0.heap.size w0 W) (hBs : W.cell? ⟨Bs, 0, none⟩ = some (.slice A zs.length cap)) (h0 : J [] W) :
    CallsIn F n Try.prog 52 #[.func (.yield l) #[] #[], .pointer (some ⟨Bs, 0, none⟩)] W fun e W' => (∃ v, e = .returned v) ∧
      (J zs W' ∨ ∃ pre, Jx pre W') := by
  have hmax := Kd.C_max hC
  refine callsIn_of_wp Try.func52 rfl hf ?_ hro
  simp only [Try.ntmps52, List.size_toArray, List.length_cons, List.length_nil, Nat.reduceAdd, Nat.reduceSub, Array.replicate_succ, Array.replicate_zero, List.push_toArray, List.append_toArray, List.nil_append, List.cons_append]
  gi_wp2
  gi_loopw [4, 7] (fun _ i wr => ∃ k : Nat, k ≤ zs.length ∧ i = .int .i64 k ∧ J (zs.take k) wr ∧ Below w0.heap.size w0 wr)
    (fun _ i _ => zs.length - (intOf i).toNat)
  case atStart => exact ⟨0, Nat.zero_le _, rfl, h0, hB0⟩
  case round =>
    obtain ⟨k, hk, rfl, hJs, hB⟩ := hrel
    by_cases hlt : k < zs.length
    · have hltz : (k : Int) < (zs.length : Int) := by omega
      obtain ⟨ad, eA, hc0, hc1, hc2⟩ := at_T32 (Kd.C_below hC hB) (k : Int) (by omega) (by omega)
      subst eA
      have hrd : rd_T32 zs (k : Int) = zs[k] := getD_at zs k _ hlt
      simp only [hrd, Int.toNat_natCast] at hc0 hc1 hc2
      have ht : zs.take (k + 1) = zs.take k ++ [zs[k]] := List.take_succ_eq_append_getElem hlt
      have hlk : (zs.take k).length < zs.length := by rw [List.length_take]; omega
      clear hrd
      generalize zs[k] = y at hc0 hc1 hc2 ht
      obtain ⟨a, s, nm⟩ := y
      simp only at hc0 hc1 hc2
      have hy0 := hY (zs.take k) ⟨a, s, nm⟩ (wr.alloc (.cells #[.int .i64 a, .int .i64 s, .string nm] 32)) (hJ _ _ _ none hJs (World.grownBy_alloc wr _ none) (fun r e => by cases e)) hlk
      obtain ⟨fn, tmps, assign, body, hy, hR⟩ := hy0
      dsimp only [enc3] at hy
      gi_wp2
      refine hR.mono ?_
      have hB2 := hB.alloc hB.size (.cells #[.int .i64 a, .int .i64 s, .string nm] 32)
      rw [← ht]
      rintro e W3 (⟨rfl, hJ3, hk3⟩ | ⟨rfl, hJx3⟩)
      · gi_wp2
        go_roundw
        case rel => exact ⟨k + 1, by omega, by go_num, hJ3, hB2.trans hk3⟩
        case measure => simp [intOf]; omega
      · gi_wp2
        refine bodyPost_ret (results_none rfl _ _ _) rfl ?_
        exact ⟨⟨_, rfl⟩, .inr ⟨_, hJx3⟩⟩
    · obtain rfl : k = zs.length := by omega
      rw [List.take_length] at hJs
      gi_wp2
      go_end0
      exact ⟨⟨_, rfl⟩, .inl hJs⟩
set_option maxHeartbeats 1000000 in
theorem values_in (F : Fence) (n : Nat) (hf : F.fn 35) (hro : F.round = none) (a : Option Addr) (len cap : Nat) (w : World) :
    CallsIn F n Try.prog 35 #[.slice a len cap] w fun e w' => e = .returned (.func (.func 52) #[] #[.pointer (some ⟨w.heap.size, 0, none⟩)]) ∧ w' = w.alloc (.cells #[.slice a len cap] 25) := by
  refine callsIn_of_wp Try.func35 rfl hf ?_ hro
  simp only [Try.ntmps35, List.size_toArray, List.length_cons, List.length_nil, Nat.reduceAdd, Nat.reduceSub, Array.replicate_succ, Array.replicate_zero, List.push_toArray, List.append_toArray, List.nil_append, List.cons_append]
  gi_wp2
  go_ret
  exact ⟨rfl, rfl⟩
theorem values_stops (F : Fence) (n : Nat) (hf : F.fn 52) (hro : F.round = none) (hn : 1 ≤ n) (Bs : Nat) (w0 : World) (A : Option Addr) (cap : Nat) (zs : List S32) (hlen : zs.length ≤ 1000) (hC : k32.C w0 A zs.length zs) (w : World) (hB0 : Below w0.heap.size w0 w) (hBs : Bs < w.heap.size) (hc : w.cell? ⟨Bs, 0, none⟩ = some (.slice A zs.length cap)) :
    SeqStopsK F n Try.prog 52 #[.pointer (some ⟨Bs, 0, none⟩)] (fun x => #[enc3 x]) (Below w0.heap.size) (fun ys => ys = zs) (fun _ => True) zs.length w := fun l J Jx W hW hJ hJx hY h0 => by
  refine (values1_in F n hf hro hn l Bs w0 A cap zs hlen hC J Jx hY W hJ (hB0.trans (hW.mono hB0.size)) ((hW.cell (p := ⟨Bs, 0, none⟩) hBs).trans hc) h0).mono ?_
  rintro e W' ⟨he, hj | ⟨pre, hj⟩⟩
  · exact ⟨he, .inl ⟨_, rfl, hj⟩⟩
  · exact ⟨he, .inr ⟨_, trivial, hj⟩⟩
end Go.Proofs.Ytfbndhhogpacmaa
/-! slices.AppendSeq, Collect at changes. -/
namespace Go.Proofs.Ytfbndhhogpacmaa
open Go.RowKit Go.Shelf
open Go.Proofs.YtfbndhhogpacmaaW.PrintWords Go.Proofs.Ytfbndhhogpacmaa.T
set_option linter.unusedVariables false
set_option linter.unusedSimpArgs false
attribute [local go_sem] Oper.semAt_some
/-- The cells of changes, one after another. -/
def flat3 (zs : List S32) : List Value := zs.flatMap fun x => [.int .i64 x.f0, .int .i64 x.f1, .string x.f2]
theorem flat3_snoc (zs : List S32) (x : S32) : flat3 (zs ++ [x]) = flat3 zs ++ [.int .i64 x.f0, .int .i64 x.f1, .string x.f2] := by simp [flat3]
theorem flat3_reps (w : World) (base : Nat) (ok : Nat → Prop) (zs : List S32) : Reps (k32.M w base ok) 3 zs (flat3 zs) := by
  have H : ∀ k, k ≤ zs.length → Reps (k32.M w base ok) 3 (zs.take k) (flat3 (zs.take k)) := by
    intro k
    induction k with
    | zero => intro _; exact Reps.none _ _
    | succ k ih =>
      intro hk
      rw [List.take_succ_eq_append_getElem (by omega), flat3_snoc]
      exact (ih (by omega)).snoc (k32_mkM w base ok _) rfl
  have := H zs.length (Nat.le_refl _)
  rwa [List.take_length] at this
theorem flat3_R {w : World} {base : Nat} {v : Value} {zs : List S32} (h : w.ownsRow base 32 3 v zs.length (flat3 zs)) : k32.R 32 w base (fun k => v.ownBlock = some k) v zs :=
  ⟨fun _ hk => hk, flat3 zs, h, flat3_reps _ _ _ _⟩
theorem cell_three_new (w : World) (a b c : Value) (t : TypeId) : ∀ j u, [a, b, c][j]? = some u → (w.alloc (.cells #[a, b, c] t)).cell? ((⟨w.heap.size, 0, none⟩ : Addr).add j) = some u := by
  intro j u hj
  match j, hj with
  | 0, hj => simp at hj; subst hj; simp [Addr.add]
  | 1, hj => simp at hj; subst hj; simp [Addr.add]
  | 2, hj => simp at hj; subst hj; simp [Addr.add]
/-- A block of cells stays where no block of cells turns. -/
theorem blk_own {β : Type} (B : Nat) (cs : Array Value) (t : TypeId) : Own (fun (_ : β) W => W.heap[B]? = some (.cells cs t (0, 0))) := fun s X Y row hs hg hrow => by
  have hlt : B < X.heap.size := (Array.getElem?_eq_some_iff.1 hs).1
  refine (hg.block B hlt (fun e => ?_)).trans hs
  obtain ⟨o, ho, hc⟩ := hrow B e.symm
  rw [show X.heap[B]? = _ from hs] at ho; cases ho; cases hc
set_option maxRecDepth 100000 in
set_option maxHeartbeats 4000000 in
theorem appendSeq_in (F : Fence) (n : Nat) (hf : F.fn 61) (hro : F.round = none) (hn : 3 ≤ n) (gf : Nat) (lb : Array Value) (hg : F.fn gf) (eg : ∀ args w, (callFunc gf args).run Try.prog w = .ok (.enter gf args) w) (w0 ws w : World) (zs : List S32) (hlen : zs.length ≤ 1000) (Sp : List S32 → Prop)
    (hseq : SeqStopsK F (n - 1) Try.prog gf lb (fun x => #[enc3 x]) (Below w0.heap.size) (fun ys => ys = zs) Sp zs.length ws) (hb0 : w0.heap.size ≤ w.heap.size) (hbs : Below ws.heap.size ws w) :
    CallsIn F n Try.prog 61 #[.slice none 0 0, .func (.func gf) #[] lb] w fun e w' => ∃ v, e = .returned v ∧ w'.ownsRow w.heap.size 32 3 v zs.length (flat3 zs) ∧ Below w.heap.size w w' := by
  have h1 : 1 ≤ n := by omega
  obtain ⟨i0, hi, hz0, hz1, hz2⟩ := info_parts info32
  refine callsIn_of_wp_marks Try.func61 rfl hf ?_ hro
  simp only [Try.ntmps61, List.size_toArray, List.length_cons, List.length_nil, Nat.reduceAdd, Nat.reduceSub, Array.replicate_succ, Array.replicate_zero, List.push_toArray, List.append_toArray, List.nil_append, List.cons_append]
  gi_wp2
  have bS := Boxed.new w 25 (.slice none 0 0)
  have hB0 : Below w.heap.size w (w.alloc (.cells #[.slice none 0 0] 25)) := (Below.refl _ w).alloc (Nat.le_refl _) _
  have hsz : (w.alloc (.cells #[.slice none 0 0] 25)).heap.size = w.heap.size + 1 := by simp
  have hbs1 : Below ws.heap.size ws (w.alloc (.cells #[.slice none 0 0] 25)) := hbs.alloc hbs.size _
  obtain ⟨W0, hW0⟩ : ∃ W0, w.alloc (.cells #[.slice none 0 0] 25) = W0 := ⟨_, rfl⟩
  rw [hW0] at bS hB0 hsz hbs1 ⊢
  clear hW0
  refine wpIn_rangeFunc_ownH hro h1 (gf := gf) (lb := lb) rfl hg eg hseq belowK_t (belowK_b (by omega)) hbs1 (fun _ => rfl)
    (fun pre W => (∃ v, Boxed W w.heap.size 25 v ∧ W.ownsRow w.heap.size 32 3 v pre.length (flat3 pre) ∧ True) ∧ Below w.heap.size w W)
    (fun _ _ _ => False)
    (OwnFrom.and (Own.from (holdsRow_own w.heap.size w.heap.size 25 32 3 (fun pre => pre.length) (fun pre => flat3 pre) (fun pre v => True)) _) (ownFrom_below (Nat.le_refl _) (by omega)))
    (fun _ _ _ _ _ hs _ _ => hs)
    ⟨⟨_, bS, World.ownsRow_nil _ _ _ _, trivial⟩, hB0⟩
    (fun x a' W => ∃ Bx, w.heap.size < Bx ∧ W.heap[Bx]? = some (.cells #[.int .i64 x.f0, .int .i64 x.f1, .string x.f2] 32 (0, 0)) ∧ a' = { tmps := #[.slice none 0 0, .func (.func gf) #[] lb, .pointer (some ⟨w.heap.size, 0, none⟩), undef, .slice none 0 0, .pointer (some ⟨Bx, 0, none⟩), .func (.func gf) #[] lb, enc3 x, undef, undef, undef, undef, undef], defers := [] })
    (fun x a' _ X Y row hs hg hr => by obtain ⟨Bx, h1, h2, h3⟩ := hs; exact ⟨Bx, h1, blk_own Bx _ _ () X Y row h2 hg (fun r e => (hr r e).2), h3⟩)
    ?assign ?body ?done ?stop
  case assign =>
    rintro l pre x W K ⟨⟨v, bS1, hr1, _⟩, hB1⟩ hK
    have hsW := hB1.size
    obtain ⟨a, s, nm⟩ := x
    dsimp only [enc3]
    gi_wp2
    exact hK _ _ ((KeepsOthers.alloc _ _).from _) ((Below.refl _ W).alloc (by omega) _) ⟨⟨v, bS1.alloc _, hr1.alloc _, trivial⟩, hB1.alloc hB1.size _⟩ ⟨W.heap.size, bS1.lt, World.alloc_heap_new W _, rfl⟩
  case body =>
    rintro l pre x a' W hl ⟨r, hr⟩ ⟨⟨v, bS1, hr1, _⟩, hB1⟩ ⟨Bx, hBx, bX, rfl⟩ hlt
    have cS := bS1.cell
    have fS := bS1.frozen
    obtain ⟨a, s, nm⟩ := x
    have x0 : W.cell? ⟨Bx, 0, none⟩ = some (.int .i64 a) := (blk_cell bX 0).trans rfl
    have x1 : W.cell? ⟨Bx, 1, none⟩ = some (.int .i64 s) := (blk_cell bX 1).trans rfl
    have x2 : W.cell? ⟨Bx, 2, none⟩ = some (.string nm) := (blk_cell bX 2).trans rfl
    have hsW := hB1.size
    gi_wp2_with (gi_at_builtin; refine wpListIn_append_own _ rfl _ _ 25 rfl w.heap.size 32 i0 (.agg #[(.int .i64 0), (.int .i64 0), (.string ⟨#[]⟩)]) 3 32 Try.underlying25 hi hz0 hz1 hz2 rfl (by decide) _ _ _ rfl (hr1.alloc _) ⟨W.heap.size, 0, none⟩ 1 1 [.int .i64 a, .int .i64 s, .string nm] rfl rfl (cell_three_new _ _ _ _ _) (by simp [Value.oneCell']) (by unfold maxLen; omega) (by omega) (by simp; omega) ?_; intro v' w1 hown' hgrow _; obtain ⟨g', cap', rfl⟩ := ownsRow_succ hown'; obtain ⟨hv1, hv2, hr2, hk2, hb2⟩ := bS1.appended (by decide) hr1 hsW (Nat.le_refl _) hown' hgrow; have hc1 := hv1.cell; have hf1 := hv1.frozen)
    refine ⟨hk2.from _, hb2.mono hb0, ⟨_, hv2, ?_⟩, hB1.trans hb2⟩
    rw [List.length_append, flat3_snoc]
    exact hr2
  case done =>
    rintro D ys W hD rfl ⟨⟨v, bS1, hr1, _⟩, hB1⟩ hK
    have cS := bS1.cell
    gi_wp2
    refine ⟨by simp, .inl ⟨_, _, rfl, run_takeDeferred hK, ?_⟩⟩
    exact ⟨_, results_tmp rfl _ _ _, v, rfl, ownsRow_putObj hr1 _ hK rfl, hB1.trans (belowK_b (w := w) (Nat.le_refl _) W D _ _ (by omega) hK rfl rfl)⟩
  case stop =>
    rintro D c pre W _ _ h _
    exact h.elim
set_option maxHeartbeats 1000000 in
/-- slices.Collect(slices.Values(zs)). -/
theorem collect_values (A : Option Addr) (cap : Nat) (zs : List S32) (hlen : zs.length ≤ 1000) (w0 w : World) (hC : k32.C w0 A zs.length zs) (hB0 : Below w0.heap.size w0 w) (Bs : Nat) (hBs : Bs < w.heap.size) (hc : w.cell? ⟨Bs, 0, none⟩ = some (.slice A zs.length cap)) :
    Calls Try.prog 50 #[.func (.func 52) #[] #[.pointer (some ⟨Bs, 0, none⟩)]] w fun e w' => ∃ v, e = .returned v ∧ w'.ownsRow w.heap.size 32 3 v zs.length (flat3 zs) ∧ Below w.heap.size w w' := by
  have HC : ∀ W, Below w.heap.size w W → _ := fun W hW => callsIn_wide.1 (appendSeq_in Fence.wide 3 trivial rfl (by omega) 52 #[.pointer (some ⟨Bs, 0, none⟩)] trivial (enters_of Try.func52 (by kernel_rfl) rfl) w0 w W zs hlen (fun _ => True)
    (values_stops Fence.wide 2 trivial rfl (by omega) Bs w0 A cap zs hlen hC w hB0 hBs hc) (Nat.le_trans hB0.size hW.size) hW)
  have HCh := Lib.hid (HC w (Below.refl _ _))
  clear HC
  go_enter Try.func50, Try.ntmps50
  go_wp2_with (go_at_call 61; refine (HCh.out).mono ?_; rintro e w' ⟨v, rfl, hv, hb⟩; replace hv := Aside0.mk hv)
  go_ret
  exact ⟨_, rfl, hv.out, hb⟩
end Go.Proofs.Ytfbndhhogpacmaa
/-! cmp.Compare; slices.SortStableFunc at changes that ascend already. -/
namespace Go.Proofs.Ytfbndhhogpacmaa
open Go.RowKit Go.Shelf
open Go.Proofs.YtfbndhhogpacmaaW.PrintWords Go.Proofs.Ytfbndhhogpacmaa.T
set_option linter.unusedVariables false
set_option linter.unusedSimpArgs false
theorem isNaN_int (a : Int) (w : World) : Calls Try.prog 53 #[.int .i64 a] w fun e w' => e = .returned (.bool false) ∧ w' = w := by
  go_enter Try.func53, Try.ntmps53
  go_wp2
  go_ret
  exact ⟨by simp, rfl⟩
def cmpZ (a b : Int) : Int := if a < b then -1 else if b < a then 1 else 0
theorem Compare_int (a b : Int) (w : World) : Calls Try.prog 37 #[.int .i64 a, .int .i64 b] w fun e w' => e = .returned (.int .i64 (cmpZ a b)) ∧ w' = w := by
  have HN := Lib.hid isNaN_int
  unfold cmpZ
  by_cases h1 : a < b
  · rw [if_pos h1]
    go_enter Try.func37, Try.ntmps37
    go_wp2_with (go_at_call 53; refine (HN.out _ _).mono ?_; rintro e w' ⟨rfl, rfl⟩)
    go_ret
    exact ⟨rfl, rfl⟩
  · rw [if_neg h1]
    by_cases h2 : b < a
    · rw [if_pos h2]
      go_enter Try.func37, Try.ntmps37
      go_wp2_with (go_at_call 53; refine (HN.out _ _).mono ?_; rintro e w' ⟨rfl, rfl⟩)
      go_ret
      exact ⟨rfl, rfl⟩
    · rw [if_neg h2]
      go_enter Try.func37, Try.ntmps37
      go_wp2_with (go_at_call 53; refine (HN.out _ _).mono ?_; rintro e w' ⟨rfl, rfl⟩)
      go_ret
      exact ⟨rfl, rfl⟩
theorem newBook1_gt (a1 s1 a2 s2 : Int) (n1 n2 : ByteArray) (h : a2 < a1) (w : World) :
    Calls Try.prog 36 #[.agg #[.int .i64 a1, .int .i64 s1, .string n1], .agg #[.int .i64 a2, .int .i64 s2, .string n2]] w fun e w' => e = .returned (.int .i64 1) ∧ Below w.heap.size w w' := by
  have hc : cmpZ a1 a2 = 1 := by unfold cmpZ; rw [if_neg (by omega), if_pos h]
  have HN := Lib.hid Compare_int
  go_enter Try.func36, Try.ntmps36
  go_wp2_with (go_at_call 37; refine (HN.out _ _ _).mono ?_; rintro e w' ⟨rfl, rfl⟩)
  go_ret
  exact ⟨rfl, ((Below.refl _ w).alloc (Nat.le_refl _) _).alloc (by simp) _⟩
set_option maxRecDepth 100000 in
set_option maxHeartbeats 1000000 in
theorem insertion_up (A : Option Addr) (c : Nat) (zs : List S32) (w : World) (hr : k32.C w A zs.length zs) (hlen : zs.length ≤ 8) (hup : zs.Pairwise fun a b => a.f0 < b.f0) :
    Calls Try.prog 82 #[.slice A zs.length c, .int .i64 0, .int .i64 zs.length, .func (.func 36) #[] #[]] w fun e w' => (∃ v, e = .returned v) ∧ Below w.heap.size w w' := by
  have HR := Aside0.mk hr
  have HUP := Aside0.mk hup
  have HN := Lib.hid newBook1_gt
  have hmax := Kd.C_max hr
  clear hr hup
  go_enter Try.func82, Try.ntmps82
  go_wp2
  go_loopw [8, 9] (fun s8 s9 wr => ∃ i : Nat, 1 ≤ i ∧ i ≤ zs.length + 1 ∧ s8 = .int .i64 i ∧ Aside0 (Below w.heap.size w wr)) (fun s8 _ _ => zs.length + 1 - (intOf s8).toNat)
  case atStart => exact ⟨1, by omega, by omega, rfl, ⟨Below.refl _ _⟩⟩
  case round =>
    obtain ⟨i, hi1, hi2, rfl, HB⟩ := hrel
    by_cases hlt : i < zs.length
    · have hltz : (i : Int) < (zs.length : Int) := by omega
      obtain ⟨j, rfl⟩ : ∃ j, i = j + 1 := ⟨i - 1, by omega⟩
      go_wp2
      go_loopw [9] (fun s9 wr => s9 = .int .i64 (j + 1 : Nat) ∧ Aside0 (Below w.heap.size w wr)) (fun _ _ => 0)
      case atStart => exact ⟨rfl, HB⟩
      case round =>
        clear HB
        obtain ⟨rfl, HB⟩ := hrel
        obtain ⟨ad, eA, hc0, hc1, hc2⟩ := at_T32 (Kd.C_below HR.out HB.out) ((j + 1 : Nat) : Int) (by omega) (by omega)
        obtain ⟨ad', eA', hd0, hd1, hd2⟩ := at_T32 (Kd.C_below HR.out HB.out) (j : Int) (by omega) (by omega)
        subst eA
        obtain rfl : ad = ad' := by injection eA'
        have hrd : rd_T32 zs ((j + 1 : Nat) : Int) = zs[j + 1] := getD_at zs (j + 1) _ hlt
        have hrd' : rd_T32 zs (j : Int) = zs[j] := getD_at zs j _ (by omega)
        have hup := List.pairwise_iff_getElem.1 HUP.out j (j + 1) (by omega) hlt (by omega)
        simp only [hrd, hrd', Int.toNat_natCast] at hc0 hc1 hc2 hd0 hd1 hd2
        clear hrd hrd'
        generalize zs[j + 1] = x at hc0 hc1 hc2 hup
        generalize zs[j] = y at hd0 hd1 hd2 hup
        obtain ⟨a1, s1, n1⟩ := x
        obtain ⟨a2, s2, n2⟩ := y
        simp only at hc0 hc1 hc2 hd0 hd1 hd2 hup
        have hz0 : (0 : Int) < ((j + 1 : Nat) : Int) := by omega
        go_wp2_with fail
        have i1 : 0 ≤ (j : Int) + 1 := by omega
        have i2 : (j : Int) + 1 < (zs.length : Int) := by omega
        have i3 : ((j : Int) + 1).toNat = j + 1 := by omega
        have i4 : IntKind.i64.wrap (j : Int) = (j : Int) := by rw [IntKind.wrap_i64]; omega
        have i5 : 0 ≤ (j : Int) := by omega
        have i6 : (j : Int) < (zs.length : Int) := by omega
        have i7 : (j : Int).toNat = j := by omega
        go_still_tail 14, (by kernel_rfl)
        change wpList _ _ _ _ _ wr.drew
        have HBd : Aside0 (Below w.heap.size w wr.drew) := ⟨HB.out.drew⟩
        generalize wr.drew = w2 at HBd
        go_wp2_with fail
        refine (HN.out _ _ _ _ _ _ hup _).mono ?_
        rintro e w3 ⟨rfl, hb3⟩
        have HB3 : Aside0 (Below w.heap.size w w3) := ⟨HBd.out.trans (hb3.mono HBd.out.size)⟩
        clear hb3 HB HBd
        go_wp2
        go_roundw
        case rel => exact ⟨j + 1 + 1, by omega, by omega, by go_num, HB3⟩
        case measure => simp [intOf]; omega
    · have hltz : ¬ (i : Int) < (zs.length : Int) := by omega
      go_wp2
      go_end0
      exact ⟨⟨_, rfl⟩, HB.out⟩
set_option maxRecDepth 100000 in
set_option maxHeartbeats 1000000 in
theorem stable_up (A : Option Addr) (c : Nat) (zs : List S32) (w : World) (hr : k32.C w A zs.length zs) (hlen : zs.length ≤ 8) (hup : zs.Pairwise fun a b => a.f0 < b.f0) :
    Calls Try.prog 62 #[.slice A zs.length c, .int .i64 zs.length, .func (.func 36) #[] #[]] w fun e w' => (∃ v, e = .returned v) ∧ Below w.heap.size w w' := by
  have HC := Lib.hid (insertion_up A c zs w hr hlen hup)
  have h20 : ¬ (20 : Int) ≤ (zs.length : Int) := by omega
  have h21 : ¬ (20 : Int) < (zs.length : Int) := by omega
  clear hr hup
  go_enter Try.func62, Try.ntmps62
  go_wp2
  go_loopw [7, 8] (fun s7 s8 wr => s7 = .int .i64 0 ∧ s8 = .int .i64 20 ∧ wr = w) (fun _ _ _ => 0)
  case atStart => exact ⟨rfl, rfl, rfl⟩
  case round =>
    obtain ⟨rfl, rfl, rfl⟩ := hrel
    go_wp2_with (go_at_call 82; refine (HC.out).mono ?_; rintro e w' ⟨⟨v, rfl⟩, hb⟩)
    go_loopw [6, 7, 8, 9] (fun s6 _ _ _ wr => s6 = .int .i64 20 ∧ wr = w') (fun _ _ _ _ _ => 0)
    case atStart => exact ⟨rfl, rfl⟩
    case round =>
      obtain ⟨rfl, rfl⟩ := hrel
      go_wp2
      go_end0
      exact ⟨⟨_, rfl⟩, hb⟩
theorem sortStable_up (A : Option Addr) (c : Nat) (zs : List S32) (w : World) (hr : k32.C w A zs.length zs) (hlen : zs.length ≤ 8) (hup : zs.Pairwise fun a b => a.f0 < b.f0) :
    Calls Try.prog 51 #[.slice A zs.length c, .func (.func 36) #[] #[]] w fun e w' => (∃ v, e = .returned v) ∧ Below w.heap.size w w' := by
  have HC := Lib.hid (stable_up A c zs w hr hlen hup)
  clear hr hup
  go_enter Try.func51, Try.ntmps51
  go_wp2_with (go_at_call 62; refine (HC.out).mono ?_; rintro e w' ⟨⟨v, rfl⟩, hb⟩)
  go_end0
  exact ⟨⟨_, rfl⟩, hb⟩
set_option maxHeartbeats 1000000 in
/-- slices.SortedStableFunc(slices.Values(zs), by At), at changes that ascend already: a copy. -/
theorem sortedStable_up (A : Option Addr) (cap : Nat) (zs : List S32) (w0 w : World) (hC : k32.C w0 A zs.length zs) (hB0 : Below w0.heap.size w0 w) (Bs : Nat) (hBs : Bs < w.heap.size) (hc : w.cell? ⟨Bs, 0, none⟩ = some (.slice A zs.length cap)) (hlen : zs.length ≤ 8) (hup : zs.Pairwise fun a b => a.f0 < b.f0) :
    Calls Try.prog 34 #[.func (.func 52) #[] #[.pointer (some ⟨Bs, 0, none⟩)], .func (.func 36) #[] #[]] w fun e w' => ∃ A1 c1, e = .returned (.slice A1 zs.length c1) ∧ k32.R 32 w' w.heap.size (fun _ => True) (.slice A1 zs.length c1) zs ∧ Below w.heap.size w w' := by
  have HC := Lib.hid (collect_values A cap zs (by omega) w0 w hC hB0 Bs hBs hc)
  have HS := Lib.hid (fun A c W h => sortStable_up A c zs W h hlen hup)
  clear hC hup
  go_enter Try.func34, Try.ntmps34
  go_wp2_with fail
  refine (HC.out).mono ?_
  rintro e w1 ⟨v, rfl, hv, hb1⟩
  obtain ⟨A1, c1, rfl, hl1, hC1⟩ := Kd.R_reads (flat3_R hv)
  have HC1 := Aside0.mk hC1
  have HR1 := Aside0.mk (Kd.R_mono (flat3_R hv) (fun _ _ => trivial))
  have HB1 := Aside0.mk hb1
  clear hv hC1 hb1
  go_wp2_with fail
  refine (HS.out _ _ _ HC1.out).mono ?_
  rintro e w2 ⟨⟨v, rfl⟩, hb2⟩
  go_wp2
  go_ret
  exact ⟨_, _, rfl, Kd.R_below HR1.out hb2, HB1.out.trans (hb2.mono HB1.out.size)⟩
end Go.Proofs.Ytfbndhhogpacmaa
/-! slices.Clone at strings. -/
namespace Go.Proofs.Ytfbndhhogpacmaa
open Go.RowKit Go.Shelf
open Go.Proofs.YtfbndhhogpacmaaW.PrintWords Go.Proofs.Ytfbndhhogpacmaa.T
set_option linter.unusedVariables false
set_option linter.unusedSimpArgs false
theorem R_empty {α : Type} (d : Kd α) (e : Nat) (W : World) (ok : Nat → Prop) (hok : ok W.heap.size) : d.R e (W.alloc (.cells #[] e)) W.heap.size ok (.slice (some ⟨W.heap.size, 0, none⟩) 0 0) [] := by
  refine ⟨fun k hk => ?_, [], ?_, Reps.none _ _⟩
  · have : W.heap.size = k := by simpa [Value.ownBlock] using hk
    exact this ▸ hok
  · have h2 := World.ownsRow_lit (base := W.heap.size) (e := e) (size := d.sz) W #[] 0 (Nat.le_refl _) (by simp [maxLen]) (by simp)
    simpa using h2
theorem eqlNil_str (W : World) (a : Option Addr) (n c : Nat) : (binOp .eql 24 (.slice a n c) (.slice none 0 0)).run Try.prog W = .ok (.bool a.isNone) W := Lib.run_eql_slice_nil W _ _ a n c 0 0 Try.underlying24
theorem eqlNil_int (W : World) (a : Option Addr) (n c : Nat) : (binOp .eql 34 (.slice a n c) (.slice none 0 0)).run Try.prog W = .ok (.bool a.isNone) W := Lib.run_eql_slice_nil W _ _ a n c 0 0 Try.underlying34
theorem neqNil_int (W : World) (a : Option Addr) (n c : Nat) : (binOp .neq 34 (.slice a n c) (.slice none 0 0)).run Try.prog W = .ok (.bool (!a.isNone)) W := run_neq_slice_nil W 34 _ a n c Try.underlying34
theorem infoStr : (Try.prog.info? 9).map (fun i => (i.zero, i.size, i.bytes)) = some (some (.string ⟨#[]⟩), 1, 16) := by kernel_rfl
theorem C_any {α : Type} {d : Kd α} {w : World} {A : Option Addr} {xs : List α} (h : d.C w A xs.length xs) (hx : xs ≠ []) : ∃ ad, A = some ad := by
  cases xs with
  | nil => exact absurd rfl hx
  | cons x r =>
    obtain ⟨ad, c, e, _⟩ := Kd.C_get h x (0 : Int) (by omega) (by simp)
    exact ⟨ad, e⟩
set_option maxRecDepth 100000 in
set_option maxHeartbeats 1000000 in
theorem Clone_str (A : Option Addr) (c : Nat) (xs : List ByteArray) (w : World) (hr : Kd.string.C w A xs.length xs) (hx : xs ≠ []) (hlen : xs.length ≤ 1000) :
    Calls Try.prog 38 #[.slice A xs.length c] w fun e w' => ∃ v, e = .returned v ∧ Kd.string.R 9 w' w.heap.size (fun _ => True) v xs ∧ Below w.heap.size w w' := by
  obtain ⟨ad, rfl⟩ := C_any hr hx
  have HR := Aside0.mk hr
  have hq := eqlNil_str
  clear hr hx
  go_enter Try.func38, Try.ntmps38
  go_wp2_with (at_builtin; refine Kd.R_append_rows Kd.string (w0 := w) w.heap.size rfl (.tmp 5) (.tmp 6) 24 9 (.string ⟨#[]⟩) 16 rfl Try.underlying24 infoStr rfl (by decide) (by omega) _ [] xs _ _ _ (fun _ => True) (fun _ => False) rfl rfl (R_empty Kd.string 9 w _ trivial) (Kd.C_alloc HR.out _) (fun _ _ h => h) (fun _ h => h.elim) (fun _ _ => trivial) ((Below.refl _ w).alloc (Nat.le_refl _) _) (by simp) (by simp; omega) ?_; intro v1 w1 hv1 hb1 _ _; have HV1 := Aside0.mk hv1; have HB1 := Aside0.mk hb1; clear hv1 hb1)
  go_ret
  exact ⟨_, rfl, HV1.out, HB1.out⟩
end Go.Proofs.Ytfbndhhogpacmaa
