import Derived.Test.YtfbndhhogpacmaaPn
import Derived.OpenShut
import Derived.Deep.Slices
import Derived.WideShapes
/-! The arguments of TopClerksStreets: opened. -/
namespace Go.Proofs.Ytfbndhhogpacmaa
open Go.RowKit Go.Shelf Go.ChangeShapes Go.WideShapes
open Go.Proofs.YtfbndhhogpacmaaW.PrintWords Go.Proofs.Ytfbndhhogpacmaa.T
set_option linter.unusedVariables false
set_option linter.unusedSimpArgs false
section
variable {H : Type} {enc : TypeId × Value → H} {P : Program} {w : World} {base fuel n : Nat} {spare : Nat → Bool} {held : Bool} {t e : TypeId} {cs : List Value} {x : DataW H × List MemPlace}
theorem byte_of_wf {b : Int} (h : (Lit.int .u8 b).wf = true) : OkByte b := by
  have := bounds_u8 h
  exact ⟨by omega, by omega⟩
theorem open_bytes (ht : P.underlying t = some (.array n e)) (he : P.underlying e = some (.int .u8)) (hc : P.cellsOf e = 1) (h : DataW.trod enc P w base spare held fuel t cs = some x) :
    cs.length = P.cellsOf t ∧ ∀ i, i < n → ∃ b : Int, OkByte b ∧ cs[i]? = some (.int .u8 b) := by
  obtain ⟨xs, m, _, _, hl, hx, hf⟩ := DataW.trod_array ht h
  refine ⟨hl, fun i hi => ?_⟩
  have h1 := hf i hi
  rw [hc, Nat.mul_one] at h1
  rw [List.getElem?_eq_getElem (by omega)] at h1
  obtain ⟨b, hb, _, hw⟩ := DataW.trod_int he h1
  refine ⟨b, byte_of_wf hw, ?_⟩
  have h2 := congrArg (fun l => l[0]?) hb
  simpa [List.getElem?_take, List.getElem?_drop] using h2
theorem okWide_arr {r : Reach} {v : Value} (ht : P.underlying t = some (.array n e)) (h : Value.okWide P w r base t v) : ∃ cs, v = .agg cs ∧ cs.size = P.cellsOf t := by
  simp only [Value.okWide, ht] at h
  obtain ⟨cs, h1, h2, _⟩ := h
  exact ⟨cs, h1, h2⟩
theorem open_rows {m : Nat} (ht : P.underlying t = some (.slice e)) (he : P.underlying e = some (.array m 5)) (h5 : P.underlying 5 = some (.int .u8)) (hc : P.cellsOf 5 = 1) (hce : P.cellsOf e = m) (h : DataW.trod enc P w base spare held fuel t cs = some x) :
    (cs = [.slice none 0 0]) ∨ ∃ (a : Addr) (len cap : Nat) (B : Nat → Nat → Int), cs = [.slice (some a) len cap] ∧ len ≤ cap ∧ cap ≤ maxLen ∧ ∀ i, i < len → ∀ j, j < m → OkByte (B i j) ∧ w.cell? (a.add (i * m + j)) = some (.int .u8 (B i j)) := by
  rcases Go.Deep.open_slice ht h with ⟨h0, _⟩ | ⟨a, len, cap, q, n, D, Pl, rfl, hb, hl, hm, hq, _, hx⟩
  · exact Or.inl h0
  right
  have hlq : len ≤ q := by rw [hq]; split <;> omega
  have each : ∀ i, i < len → ∃ B : Nat → Int, ∀ j, j < m → OkByte (B j) ∧ w.cell? (a.add (i * m + j)) = some (.int .u8 (B j)) := by
    intro i hi
    obtain ⟨cs', h1, h2⟩ := hx i (by omega)
    rw [hce] at h1
    obtain ⟨_, hlen, hcell⟩ := World.cells?_some h1
    obtain ⟨_, hby⟩ := open_bytes he h5 hc h2
    obtain ⟨B, hB⟩ := Go.Deep.choose_lt hby
    refine ⟨B, fun j hj => ⟨(hB j hj).1, ?_⟩⟩
    have h3 := hcell j hj
    rw [add_add] at h3
    rw [h3]
    exact (hB j hj).2
  obtain ⟨B, hB⟩ := Go.Deep.choose_lt each
  exact ⟨a, len, cap, B, rfl, hl, hm, hB⟩
end
theorem maxLen_le {n : Nat} (h : n ≤ maxLen) : n ≤ 9223372036854775807 := h
theorem row3_C {w : World} {a : Addr} {len : Nat} {B : Nat → Nat → Int} (hm : len ≤ 9223372036854775807) (h : ∀ i, i < len → ∀ j, j < 3 → OkByte (B i j) ∧ w.cell? (a.add (i * 3 + j)) = some (.int .u8 (B i j))) :
    ∃ xs : List (Int × Int × Int), xs.length = len ∧ (∀ x ∈ xs, OkByte x.1 ∧ OkByte x.2.1 ∧ OkByte x.2.2) ∧ k3.C w (some a) len xs := by
  refine ⟨(List.range len).map fun i => (B i 0, B i 1, B i 2), by simp, ?_, by simp, hm, fun _ => ⟨a, rfl, fun j p hj => ?_⟩⟩
  · intro x hx
    obtain ⟨i, hi, rfl⟩ := List.mem_map.1 hx
    rw [List.mem_range] at hi
    exact ⟨(h i hi 0 (by omega)).1, (h i hi 1 (by omega)).1, (h i hi 2 (by omega)).1⟩
  · have hjl : j < len := by
      have := (List.getElem?_eq_some_iff.1 hj).1
      simpa using this
    rw [List.getElem?_map, List.getElem?_range hjl] at hj
    simp only [Option.map_some, Option.some.injEq] at hj
    subst hj
    refine ⟨[.int .u8 (B j 0), .int .u8 (B j 1), .int .u8 (B j 2)], rfl, ⟨[.int .u8 (B j 0)], [.int .u8 (B j 1), .int .u8 (B j 2)], rfl, rfl, ⟨[.int .u8 (B j 1)], [.int .u8 (B j 2)], rfl, rfl, rfl⟩⟩, fun i u hu => ?_⟩
    have hi : i < 3 := (List.getElem?_eq_some_iff.1 hu).1
    have e := (h j hjl i hi).2
    have : i = 0 ∨ i = 1 ∨ i = 2 := by omega
    rcases this with rfl | rfl | rfl <;> (cases hu; exact e)
end Go.Proofs.Ytfbndhhogpacmaa
