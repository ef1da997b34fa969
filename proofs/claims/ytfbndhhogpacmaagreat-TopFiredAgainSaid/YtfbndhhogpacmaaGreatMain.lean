/- For every input TopFiredAgain returns true, and each argument reads behind the call as it read before: no condition. -/
import Derived.Test.YtfbndhhogpacmaaGreatRows
import Derived.Test.YtfbndhhogpacmaaGreatPk
import Derived.Test.YtfbndhhogpacmaaGreatPl
import Derived.WalkKit
import Derived.ProofKit
import Derived.OpenShut
import Derived.ShutString
import Derived.ChangeOld
import Derived.Below
import Derived.SizedLaws
namespace Go.Proofs.YtfbndhhogpacmaaGreat.Fired
open Go.ChangeShapes Go.WideShapes Go.ChangeAt Go.RowKit
open Go.Proofs.YtfbndhhogpacmaaGreatW.PrintWords Go.Proofs.YtfbndhhogpacmaaGreat.T
set_option linter.unusedVariables false
set_option linter.unusedSimpArgs false
theorem own : ownKnob Tryz.prog.godebug = none := by kernel_rfl
theorem laidOut : laidOutB Tryz.prog = true := by kernel_rfl
set_option maxRecDepth 100000 in
theorem lifted (os : Os) (started : os.Started) (H : Type) (enc : TypeId × Value → H) :
  ReturnsInHanded {} Tryz.checked os 3 .any (Rows.topFiredAgainSpec.pre6 enc Tryz.prog Tryz.f3 Rows.topFiredAgainRow.domain false) (Rows.topFiredAgainSpec.post enc Tryz.prog Tryz.f3 false true false false) := by
 refine returnsInHanded_of_change_sized (C := Tryz.checked) own started (by kernel_rfl) Tryz.func3
  (ChangeSpec.witness6 (enc := enc) (C := Tryz.checked) false ⟨#[], #[.slice none 0 0, .slice none 0 0, .agg #[.int .u8 0, .int .u8 0, .int .u8 0], .agg #[.int .u8 0, .int .u8 0, .int .u8 0, .int .u8 0, .int .u8 0, .int .u8 0]], []⟩ 8 (by kernel_rfl) (by kernel_rfl) (by kernel_rfl) (by kernel_rfl)) ?_
 intro W base args ds gs before hval0 hW hcnd hsz0 _
 have hval : ∀ (j : Nat) t v, Tryz.f3.params[j]? = some t → args[j]? = some v → Value.okWide Tryz.prog W .any base t v := hval0
 have hW' := hW
 obtain ⟨p, q, hA0, hV, rfl, hfz, hnd⟩ := hW
 have hA : DataW.TrodAll enc Tryz.prog W 0 (fun _ => true) true Tryz.f3.params.toList args.toList ds p := hA0
 rw [Tryz.params3] at hA hval
 obtain ⟨v0, vs0, d0, ds0, p0, q0, hargs, rfl, rfl, h0, r0⟩ := trodAll_cons hA
 obtain ⟨v1, vs1, d1, ds1, p1, q1, rfl, rfl, rfl, h1, r1⟩ := trodAll_cons r0
 obtain ⟨v2, vs2, d2, ds2, p2, q2, rfl, rfl, rfl, h2, r2⟩ := trodAll_cons r1
 obtain ⟨v3, vs3, d3, ds3, p3, q3, rfl, rfl, rfl, h3, r3⟩ := trodAll_cons r2
 obtain ⟨rfl, rfl, rfl⟩ := trodAll_nil r3
 obtain rfl : args = #[v0, v1, v2, v3] := by cases args; simp_all
 obtain ⟨rfl, rfl⟩ := trodVars_none hV
 have k0 := h0
 have k1 := h1
 have k2 := h2
 have k3_ := h3
 have lt0 : ∀ x ∈ p0, x.block < W.heap.size := by obtain ⟨m, hm⟩ := k0; exact DataW.trod_lt m _ _ _ hm
 have lt1 : ∀ x ∈ p1, x.block < W.heap.size := by obtain ⟨m, hm⟩ := k1; exact DataW.trod_lt m _ _ _ hm
 have lt2 : ∀ x ∈ p2, x.block < W.heap.size := by obtain ⟨m, hm⟩ := k2; exact DataW.trod_lt m _ _ _ hm
 have lt3 : ∀ x ∈ p3, x.block < W.heap.size := by obtain ⟨m, hm⟩ := k3_; exact DataW.trod_lt m _ _ _ hm
 obtain ⟨a0, len0, cap0, rfl⟩ := okWide_slice Tryz.underlying23 (hval 0 23 v0 rfl rfl)
 obtain ⟨a1, len1, cap1, rfl⟩ := okWide_slice Tryz.underlying25 (hval 1 25 v1 rfl rfl)
 obtain ⟨cs2, rfl, hz2⟩ := okWide_arr Tryz.underlying26 (hval 2 26 v2 rfl rfl)
 obtain ⟨cs3, rfl, hz3⟩ := okWide_arr Tryz.underlying28 (hval 3 28 v3 rfl rfl)
 obtain ⟨xs, hx1, hx2, hx3⟩ : ∃ xs : List (Int × Int × Int), xs.length = len0 ∧ (∀ x ∈ xs, OkByte x.1 ∧ OkByte x.2.1 ∧ OkByte x.2.2) ∧ k3.C W a0 len0 xs := by
  obtain ⟨fuel, hf⟩ := h0
  rcases open_rows Tryz.underlying23 Tryz.underlying26 Tryz.underlying5 (by kernel_rfl) (by kernel_rfl) hf with hcs | ⟨a, len, cap, B, hcs, hl, hm, hB⟩
  ·simp [Value.cells] at hcs
   obtain ⟨rfl, rfl, rfl⟩ := hcs
   exact ⟨[], rfl, by simp, Kd.C_nil _ _⟩
  ·simp [Value.cells] at hcs
   obtain ⟨rfl, rfl, rfl⟩ := hcs
   exact row3_C (Nat.le_trans hl (maxLen_le hm)) hB
 obtain ⟨ys, hy1, hy2, hy3, hy4⟩ : ∃ ys : List S65, ys.length = len1 ∧ (∀ x ∈ ys, OkBytes4 x) ∧ k65.C W a1 len1 ys ∧ len1 ≤ cap1 := by
  obtain ⟨fuel, hf⟩ := h1
  rcases open_rows Tryz.underlying25 Tryz.underlying65 Tryz.underlying5 (by kernel_rfl) (by kernel_rfl) hf with hcs | ⟨a, len, cap, B, hcs, hl, hm, hB⟩
  ·simp [Value.cells] at hcs
   obtain ⟨rfl, rfl, rfl⟩ := hcs
   exact ⟨[], rfl, by simp, Kd.C_nil _ _, Nat.le_refl _⟩
  ·simp [Value.cells] at hcs
   obtain ⟨rfl, rfl, rfl⟩ := hcs
   obtain ⟨ys, z1, z2, z3⟩ := row4_C (Nat.le_trans hl (maxLen_le hm)) hB
   exact ⟨ys, z1, z2, z3, hl⟩
 subst hx1 hy1
 obtain ⟨g0, g1, g2, b0, b1, b2, rfl⟩ : ∃ g0 g1 g2 : Int, OkByte g0 ∧ OkByte g1 ∧ OkByte g2 ∧ cs2 = #[.int .u8 g0, .int .u8 g1, .int .u8 g2] := by
  obtain ⟨fuel, hf⟩ := h2
  obtain ⟨hl, hb⟩ := open_bytes Tryz.underlying26 Tryz.underlying5 (by kernel_rfl) hf
  obtain ⟨g0, b0, e0⟩ := hb 0 (by omega)
  obtain ⟨g1, b1, e1⟩ := hb 1 (by omega)
  obtain ⟨g2, b2, e2⟩ := hb 2 (by omega)
  have hs : cs2.size = 3 := hz2
  refine ⟨g0, g1, g2, b0, b1, b2, Array.ext (by rw [hs]; rfl) (fun i h1 h2 => ?_)⟩
  simp only [Value.cells, Array.getElem?_toList] at e0 e1 e2
  have : i = 0 ∨ i = 1 ∨ i = 2 := by omega
  rcases this with rfl | rfl | rfl
  ·exact (Array.getElem?_eq_some_iff.1 e0).2
  ·exact (Array.getElem?_eq_some_iff.1 e1).2
  ·exact (Array.getElem?_eq_some_iff.1 e2).2
 obtain ⟨o0, o1, o2, o3, o4, o5, c0, c1, c2, c3, c4, c5, rfl⟩ : ∃ o0 o1 o2 o3 o4 o5 : Int, OkByte o0 ∧ OkByte o1 ∧ OkByte o2 ∧ OkByte o3 ∧ OkByte o4 ∧ OkByte o5 ∧ cs3 = #[.int .u8 o0, .int .u8 o1, .int .u8 o2, .int .u8 o3, .int .u8 o4, .int .u8 o5] := by
  obtain ⟨fuel, hf⟩ := h3
  have hs : cs3.size = 6 := hz3
  obtain ⟨zs, m, _, _, hl, hz, hg⟩ := DataW.trod_array Tryz.underlying28 hf
  have key : ∀ i, i < 3 → ∃ a b : Int, OkByte a ∧ OkByte b ∧ cs3[i * 2]? = some (.int .u8 a) ∧ cs3[i * 2 + 1]? = some (.int .u8 b) := by
   intro i hi
   have h := hg i hi
   rw [List.getElem?_eq_getElem (by omega)] at h
   obtain ⟨_, hb⟩ := open_bytes Tryz.underlying27 Tryz.underlying5 (by kernel_rfl) h
   obtain ⟨a, b0, e0⟩ := hb 0 (by omega)
   obtain ⟨b, b1, e1⟩ := hb 1 (by omega)
   have hce : Tryz.prog.cellsOf 27 = 2 := by kernel_rfl
   rw [hce] at e0 e1
   simp [Value.cells, List.getElem?_take, List.getElem?_drop] at e0 e1
   exact ⟨a, b, b0, b1, by simpa using e0, by simpa using e1⟩
  obtain ⟨o0, o1, c0, c1, e0, e1⟩ := key 0 (by omega)
  obtain ⟨o2, o3, c2, c3, e2, e3⟩ := key 1 (by omega)
  obtain ⟨o4, o5, c4, c5, e4, e5⟩ := key 2 (by omega)
  refine ⟨o0, o1, o2, o3, o4, o5, c0, c1, c2, c3, c4, c5, Array.ext (by rw [hs]; rfl) (fun i h1 h2 => ?_)⟩
  have : i = 0 ∨ i = 1 ∨ i = 2 ∨ i = 3 ∨ i = 4 ∨ i = 5 := by omega
  rcases this with rfl | rfl | rfl | rfl | rfl | rfl
  ·exact (Array.getElem?_eq_some_iff.1 e0).2
  ·exact (Array.getElem?_eq_some_iff.1 e1).2
  ·exact (Array.getElem?_eq_some_iff.1 e2).2
  ·exact (Array.getElem?_eq_some_iff.1 e3).2
  ·exact (Array.getElem?_eq_some_iff.1 e4).2
  ·exact (Array.getElem?_eq_some_iff.1 e5).2
 clear hA0 hval0 hsz0
 refine (fired_ok a0 a1 cap0 cap1 xs ys g0 g1 g2 o0 o1 o2 o3 o4 o5 hx2 hy2 b0 b1 b2 c0 c1 c2 c3 c4 c5 hy4 W hx3 hy3).mono fun e W' ⟨he, bel⟩ => ?_
 subst he
 exact ⟨_, rfl, _, _, _, [], _, [], hW', trodAll_mk1 (shut_bool Tryz.underlying4 _), (trodAll_cons_mk (Below.trod laidOut (by kernel_rfl) (of_decide_eq_true (by kernel_rfl)) k0 bel lt0) (trodAll_cons_mk (Below.trod laidOut (by kernel_rfl) (of_decide_eq_true (by kernel_rfl)) k1 bel lt1) (trodAll_cons_mk (Below.trod laidOut (by kernel_rfl) (of_decide_eq_true (by kernel_rfl)) k2 bel lt2) (trodAll_cons_mk (Below.trod laidOut (by kernel_rfl) (of_decide_eq_true (by kernel_rfl)) k3_ bel lt3) trodAll_mk0)))), rfl, bel.frame _, fun h => by cases h⟩
theorem over : Rows.topFiredAgainRow.holds Tryz.pinned (OpenSpec.ofChange Rows.topFiredAgainSpec) :=
 OpenClaim.holds_of_wide 3 Tryz.f3 rfl rfl rfl rfl rfl rfl rfl ⟨rfl, rfl, rfl, rfl, rfl⟩ rfl rfl rfl rfl rfl (by kernel_rfl) Tryz.func3 (by kernel_rfl)
  (of_decide_eq_true (by kernel_rfl)) (by unfold Func.isWrapper; first | (rw [if_pos (by decide +kernel)]; kernel_rfl) | (rw [if_neg (by decide +kernel)]; exact ⟨rfl, rfl⟩))
  (fun os started H enc _ => lifted os started H enc)
end Go.Proofs.YtfbndhhogpacmaaGreat.Fired
namespace Go.Proofs.YtfbndhhogpacmaaGreat
theorem topFiredAgain_holds : Rows.TopFiredAgainSaid := Fired.over
#print axioms topFiredAgain_holds
end Go.Proofs.YtfbndhhogpacmaaGreat
