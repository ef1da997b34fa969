import Derived.Test.YtfbndhhogpacmaaPl
import Derived.Test.YtfbndhhogpacmaaPj
/-! street.Clash: of a town whose changes do not clash, and of one whose changes do. -/
namespace Go.Proofs.Ytfbndhhogpacmaa
open Go.RowKit Go.Shelf
open Go.Proofs.YtfbndhhogpacmaaW.PrintWords Go.Proofs.Ytfbndhhogpacmaa.T
set_option linter.unusedVariables false
set_option linter.unusedSimpArgs false
set_option maxRecDepth 100000 in
set_option maxHeartbeats 2000000 in
theorem Clash_good (A1 A2 : Option Addr) (k1 k2 : Nat) (first : List ByteArray) (chg : List S32) (good : GoodTown first chg) (w : World) (h1 : Kd.string.C w A1 first.length first) (h2 : k32.C w A2 chg.length chg) :
    Calls Try.prog 5 #[.agg #[.slice A1 first.length k1, .slice A2 chg.length k2]] w fun e w' => e = .returned (.tuple #[.int .i64 0, .slice none 0 0, .int .i64 6]) ∧ Below w.heap.size w w' := by
  have HCK := Lib.hid (fun W h1 h2 => Check_street A1 A2 k1 k2 first chg W h1 h2 good.ok)
  have HNB := Lib.hid (fun W h1 h2 => newBook_ok A1 A2 k1 k2 first chg W h1 h2 good.ok good.nc)
  have hq := eqlNil_int
  have hq2 := neqNil_int
  have H1 := Aside0.mk h1
  have H2 := Aside0.mk h2
  clear good h1 h2
  go_enter Try.func5, Try.ntmps5
  go_wp2_with fail
  have HB := Aside0.mk (below_alloc (Below.refl w.heap.size w) (.cells #[.slice A1 first.length k1, .slice A2 chg.length k2] 27))
  have BK1 := Aside0.mk (blk_new w (.cells #[.slice A1 first.length k1, .slice A2 chg.length k2] 27))
  generalize w.alloc (.cells #[.slice A1 first.length k1, .slice A2 chg.length k2] 27) = W0 at HB BK1 ⊢
  refine (HCK.out W0 (Kd.C_below H1.out HB.out) (Kd.C_below H2.out HB.out)).mono ?_
  rintro e w1 ⟨rfl, hb1⟩
  replace BK1 := Aside0.mk (blk_below BK1.out hb1)
  replace HB := Aside0.mk (below_step HB.out hb1)
  have q1 : w1.cell? ⟨w.heap.size, 0, none⟩ = some (.slice A1 first.length k1) := (blk_cell BK1.out 0).trans rfl
  have q2 : w1.cell? ⟨w.heap.size, 1, none⟩ = some (.slice A2 chg.length k2) := (blk_cell BK1.out 1).trans rfl
  clear hb1
  go_wp2_with fail
  refine (HNB.out w1 (Kd.C_below H1.out HB.out) (Kd.C_below H2.out HB.out)).mono ?_
  rintro e w2 ⟨A3, c3, rfl, hS, hb2⟩
  replace HB := Aside0.mk (below_step HB.out hb2)
  clear hS hb2 q1 q2
  go_wp2
  go_ret3
  exact ⟨rfl, HB.out⟩
set_option maxRecDepth 100000 in
set_option maxHeartbeats 2000000 in
theorem Clash_bad (A1 A2 : Option Addr) (k1 k2 : Nat) (first : List ByteArray) (chg : List S32) (ok : OkTown first chg) (hcl : ∃ k, k ≤ chg.length ∧ ¬ (namesK first chg k).Nodup) (w : World) (h1 : Kd.string.C w A1 first.length first) (h2 : k32.C w A2 chg.length chg) :
    Calls Try.prog 5 #[.agg #[.slice A1 first.length k1, .slice A2 chg.length k2]] w fun e w' => ∃ (at_ : Int) (g n c : Nat), e = .returned (.tuple #[.int .i64 at_, .slice (some ⟨g, 0, none⟩) n c, .int .i64 0]) ∧ Below w.heap.size w w' := by
  have HCK := Lib.hid (fun W h1 h2 => Check_street A1 A2 k1 k2 first chg W h1 h2 ok)
  have HNB := Lib.hid (fun W h1 h2 => newBook_clash A1 A2 k1 k2 first chg W h1 h2 ok hcl)
  have hq := eqlNil_int
  have hq2 := neqNil_int
  have H1 := Aside0.mk h1
  have H2 := Aside0.mk h2
  clear ok hcl h1 h2
  go_enter Try.func5, Try.ntmps5
  go_wp2_with fail
  have HB := Aside0.mk (below_alloc (Below.refl w.heap.size w) (.cells #[.slice A1 first.length k1, .slice A2 chg.length k2] 27))
  have BK1 := Aside0.mk (blk_new w (.cells #[.slice A1 first.length k1, .slice A2 chg.length k2] 27))
  generalize w.alloc (.cells #[.slice A1 first.length k1, .slice A2 chg.length k2] 27) = W0 at HB BK1 ⊢
  refine (HCK.out W0 (Kd.C_below H1.out HB.out) (Kd.C_below H2.out HB.out)).mono ?_
  rintro e w1 ⟨rfl, hb1⟩
  replace BK1 := Aside0.mk (blk_below BK1.out hb1)
  replace HB := Aside0.mk (below_step HB.out hb1)
  have q1 : w1.cell? ⟨w.heap.size, 0, none⟩ = some (.slice A1 first.length k1) := (blk_cell BK1.out 0).trans rfl
  have q2 : w1.cell? ⟨w.heap.size, 1, none⟩ = some (.slice A2 chg.length k2) := (blk_cell BK1.out 1).trans rfl
  clear hb1
  go_wp2_with fail
  refine (HNB.out w1 (Kd.C_below H1.out HB.out) (Kd.C_below H2.out HB.out)).mono ?_
  rintro e w2 ⟨x, at_, g, n, c, rfl, hb2⟩
  replace HB := Aside0.mk (below_step HB.out hb2)
  clear hb2 q1 q2
  go_wp2
  go_ret3
  exact ⟨at_, g, n, c, rfl, HB.out⟩
/-- A town whose changes are valid: they clash, or not. -/
theorem town_or {first : List ByteArray} {chg : List S32} (ok : OkTown first chg) : GoodTown first chg ∨ ∃ k, k ≤ chg.length ∧ ¬ (namesK first chg k).Nodup := by
  by_cases h : ∀ k ≤ chg.length, (namesK first chg k).Nodup
  · exact .inl ⟨ok, h⟩
  · rw [Classical.not_forall] at h
    obtain ⟨k, hk⟩ := h
    rw [Classical.not_imp] at hk
    exact .inr ⟨k, hk⟩
end Go.Proofs.Ytfbndhhogpacmaa
/-! TopClerksStreets: the plain side. -/
namespace Go.Proofs.Ytfbndhhogpacmaa
open Go.RowKit Go.Shelf
open Go.Proofs.YtfbndhhogpacmaaW.PrintWords Go.Proofs.Ytfbndhhogpacmaa.T
set_option linter.unusedVariables false
set_option linter.unusedSimpArgs false
/-- The changes among the first k that one clerk notes. -/
def pick (b : Nat → Bool) (chg : List S32) : Nat → List S32
  | 0 => []
  | k + 1 => match chg[k]? with
    | some c => if b k then pick b chg k ++ [c] else pick b chg k
    | none => pick b chg k
section
variable (b : Nat → Bool) (chg : List S32)
theorem pick_succ (k : Nat) (hk : k < chg.length) : pick b chg (k + 1) = if b k then pick b chg k ++ [chg[k]] else pick b chg k := by
  rw [pick, List.getElem?_eq_getElem hk]
theorem pick_sub (k : Nat) : (pick b chg k).Sublist (chg.take k) := by
  induction k with
  | zero => simp [pick]
  | succ k ih =>
    by_cases hk : k < chg.length
    · rw [pick_succ _ _ _ hk, List.take_succ_eq_append_getElem hk]
      split
      · exact ih.append (List.Sublist.refl _)
      · exact ih.trans (List.sublist_append_left _ _)
    · have e : pick b chg (k + 1) = pick b chg k := by rw [pick, List.getElem?_eq_none (by omega)]
      rw [e, List.take_of_length_le (by omega)]
      rw [List.take_of_length_le (by omega)] at ih
      exact ih
theorem pick_sub' (k : Nat) : (pick b chg k).Sublist chg := (pick_sub b chg k).trans (List.take_sublist k chg)
theorem pick_length (k : Nat) : (pick b chg k).length ≤ chg.length := (pick_sub' b chg k).length_le
theorem pick_length' (k : Nat) : (pick b chg k).length ≤ k := Nat.le_trans (pick_sub b chg k).length_le (List.length_take_le _ _)
theorem pick_town {first : List ByteArray} (ok : OkTown first chg) (k : Nat) : OkTown first (pick b chg k) where
  n1 := ok.n1
  n2 := ok.n2
  nm := ok.nm
  nd := ok.nd
  c1 := Nat.le_trans (pick_length b chg k) ok.c1
  ch := fun c hc => ok.ch c ((pick_sub' b chg k).subset hc)
  up := ok.up.sublist (pick_sub' b chg k)
theorem pick_mem (k : Nat) (i : Nat) (hi : i < chg.length) (hik : i < k) (hb : b i = true) : chg[i] ∈ pick b chg k := by
  induction k with
  | zero => omega
  | succ k ih =>
    by_cases hk : k < chg.length
    · rw [pick_succ _ _ _ hk]
      rcases Nat.lt_or_ge i k with h | h
      · have := ih h
        split
        · exact List.mem_append_left _ this
        · exact this
      · obtain rfl : i = k := by omega
        rw [if_pos hb]
        exact List.mem_append_right _ List.mem_cons_self
    · have e : pick b chg (k + 1) = pick b chg k := by rw [pick, List.getElem?_eq_none (by omega)]
      rw [e]
      exact ih (by omega)
end
theorem getD_set (l : List ByteArray) (i s : Nat) (v z : ByteArray) (hs : s < l.length) : (l.set i v).getD s z = if i = s then v else l.getD s z := by
  rw [getD_at _ _ _ (by rw [List.length_set]; exact hs), getD_at _ _ _ hs, List.getElem_set]
theorem names_pick (b : Nat → Bool) (first : List ByteArray) (chg : List S32) (s : Nat) (hs : s < first.length) (k : Nat) (hk : k ≤ chg.length) (h : ∀ (i : Nat) (hi : i < chg.length), i < k → chg[i].f1.toNat = s → b i = true) :
    (namesK first (pick b chg k) (pick b chg k).length).getD s ByteArray.empty = (namesK first chg k).getD s ByteArray.empty := by
  induction k with
  | zero => rfl
  | succ k ih =>
    have hlt : k < chg.length := by omega
    have ih2 := ih (by omega) (fun i hi hik => h i hi (by omega))
    rw [pick_succ _ _ _ hlt, namesK_succ first chg k hlt, getD_set _ _ _ _ _ (by rw [namesK_length]; exact hs)]
    by_cases hb : b k = true
    · rw [if_pos hb, List.length_append, show ([chg[k]] : List S32).length = 1 from rfl, namesK_app1, getD_set _ _ _ _ _ (by rw [namesK_length]; exact hs), ih2]
    · rw [if_neg hb, if_neg (fun e => hb (h k hlt (by omega) e)), ih2]
theorem names_none (first : List ByteArray) (chg : List S32) (s : Nat) (hs : s < first.length) (k : Nat) (hk : k ≤ chg.length) (h : ∀ (i : Nat) (hi : i < chg.length), i < k → ¬ chg[i].f1.toNat = s) :
    (namesK first chg k).getD s ByteArray.empty = first.getD s ByteArray.empty := by
  induction k with
  | zero => rfl
  | succ k ih =>
    have hlt : k < chg.length := by omega
    rw [namesK_succ first chg k hlt, getD_set _ _ _ _ _ (by rw [namesK_length]; exact hs), if_neg (h k hlt (by omega)), ih (by omega) (fun i hi hik => h i hi (by omega))]
theorem cntLe_all (chg : List S32) (h : ∀ c ∈ chg, c.f0 ≤ 1000) : cntLe chg 1000 = chg.length := by
  unfold cntLe
  rw [List.countP_eq_length]
  intro c hc
  simpa using h c hc
theorem nameAt_last (first : List ByteArray) (chg : List S32) (ok : OkTown first chg) (s : Nat) : nameAt first chg (s : Int) 1000 = (namesK first chg chg.length).getD s ByteArray.empty := by
  unfold nameAt
  rw [cntLe_all chg (fun c hc => (ok.ch c hc).at2), Int.toNat_natCast]
/-- Whether some changes are of a street. -/
def hasSt (l : List S32) (s : Nat) : Bool := l.any fun c => decide (c.f1.toNat = s)
theorem hasSt_app (l : List S32) (c : S32) (s : Nat) : hasSt (l ++ [c]) s = (hasSt l s || decide (c.f1.toNat = s)) := by
  unfold hasSt
  rw [List.any_append]
  simp
theorem hasSt_no (b : Nat → Bool) (chg : List S32) (s : Nat) (h : hasSt (pick b chg chg.length) s = false) (i : Nat) (hi : i < chg.length) (he : chg[i].f1.toNat = s) : b i = false := by
  cases hb : b i with
  | false => rfl
  | true =>
    have hm := pick_mem b chg chg.length i hi hi hb
    unfold hasSt at h
    rw [List.any_eq_false] at h
    have := h _ hm
    simp [he] at this
/-- Who did not change a street calls it as at first; the other one as in the town with all changes. -/
theorem one_not (b : Nat → Bool) (first : List ByteArray) (chg : List S32) (ok : OkTown first chg) (s : Nat) (hs : s < first.length) (h : hasSt (pick b chg chg.length) s = false) :
    nameAt first (pick b chg chg.length) (s : Int) 1000 = nameAt first [] (s : Int) 1000 ∧ nameAt first (pick (fun i => !b i) chg chg.length) (s : Int) 1000 = nameAt first chg (s : Int) 1000 := by
  have hno := hasSt_no b chg s h
  refine ⟨?_, ?_⟩
  · rw [nameAt_last _ _ (pick_town b chg ok _)]
    have e0 : nameAt first [] (s : Int) 1000 = first.getD s ByteArray.empty := rfl
    rw [e0]
    refine names_none _ _ _ hs _ (Nat.le_refl _) (fun i hi _ he => ?_)
    unfold hasSt at h
    rw [List.any_eq_false] at h
    have := h _ (List.getElem_mem hi)
    simp [he] at this
  · rw [nameAt_last _ _ (pick_town _ chg ok _), nameAt_last _ _ ok]
    exact names_pick _ first chg s hs _ (Nat.le_refl _) (fun i hi _ he => by simp [hno i hi he])
theorem two_not (b : Nat → Bool) (first : List ByteArray) (chg : List S32) (ok : OkTown first chg) (s : Nat) (hs : s < first.length) (h : hasSt (pick (fun i => !b i) chg chg.length) s = false) :
    nameAt first (pick (fun i => !b i) chg chg.length) (s : Int) 1000 = nameAt first [] (s : Int) 1000 ∧ nameAt first (pick b chg chg.length) (s : Int) 1000 = nameAt first chg (s : Int) 1000 := by
  have := one_not (fun i => !b i) first chg ok s hs h
  have e : (fun i => !(fun i => !b i) i) = b := funext fun i => by simp
  rwa [e] at this
/-- What becomes of a street: its name, and whether it clashes. -/
def want (x p q : ByteArray) : ByteArray := if p = q ∨ q = x then p else if p = x then q else x
def wantC (x p q : ByteArray) : Bool := decide (¬ (p = q ∨ q = x) ∧ ¬ p = x)
theorem want_comm (x p q : ByteArray) : want x p q = want x q p := by
  unfold want
  by_cases h1 : p = q
  · subst h1
    simp
  · have h1' : ¬ q = p := fun e => h1 e.symm
    by_cases h2 : q = x
    · subst h2
      simp [h1, h1']
    · by_cases h3 : p = x
      · subst h3
        simp [h1, h1']
      · simp [h1, h1', h2, h3]
theorem wantC_comm (x p q : ByteArray) : wantC x p q = wantC x q p := by
  unfold wantC
  by_cases h1 : p = q
  · subst h1
    rfl
  · have h1' : ¬ q = p := fun e => h1 e.symm
    by_cases h2 : q = x <;> by_cases h3 : p = x <;> simp [h1, h1', h2, h3]
theorem entEq_dec (s t : ByteArray) : entEq (s, true) (t, true) = decide (s = t) := by
  unfold entEq
  by_cases h : s = t
  · subst h
    simp
  · rw [strNe h]
    simp [h]
theorem mrg_want (x p q : ByteArray) : mrg (x, true) (p, true) (q, true) = ((want x p q, true), wantC x p q) := by
  unfold mrg want wantC
  rw [entEq_dec, entEq_dec, entEq_dec]
  by_cases h1 : p = q
  · simp [h1]
  · by_cases h2 : q = x
    · simp [h1, h2]
    · by_cases h3 : p = x
      · subst h3
        simp [h1, h2]
      · simp [h1, h2, h3]
/-- A book of three lines. -/
def l3 (f : Nat → ByteArray) : List S48 := [⟨0, f 0⟩, ⟨1, f 1⟩, ⟨2, f 2⟩]
def lastN (chg : List S32) (s : Nat) : ByteArray := nameAt first3 chg (s : Int) 1000
theorem lastK_l3 (chg : List S32) : lastK chg 3 = l3 (lastN chg) := rfl
theorem l3_sh (f : Nat → ByteArray) (i : Nat) (h : i < 3) : shelfOf (l3 f) i = (f i, true) := by
  have : i = 0 ∨ i = 1 ∨ i = 2 := by omega
  rcases this with rfl | rfl | rfl <;> rfl
theorem l3_far (f : Nat → ByteArray) (i : Nat) (h : 3 ≤ i) : shelfOf (l3 f) i = (⟨#[]⟩, false) := by
  have e0 : i ≠ 0 := by omega
  have e1 : i ≠ 1 := by omega
  have e2 : i ≠ 2 := by omega
  simp [shelfOf, l3, shPut, sh0, e0, e1, e2]
def dueK (x p q : Nat → ByteArray) (k : Nat) : List Int := (List.range k).filterMap fun i => if wantC (x i) (p i) (q i) then some (i : Int) else none
theorem dueK_succ (x p q : Nat → ByteArray) (k : Nat) : dueK x p q (k + 1) = dueK x p q k ++ if wantC (x k) (p k) (q k) then [(k : Int)] else [] := by
  unfold dueK
  rw [List.range_succ, List.filterMap_append]
  congr 1
  rw [List.filterMap_cons, List.filterMap_nil]
  split <;> simp_all
theorem dueK_length (x p q : Nat → ByteArray) (k : Nat) : (dueK x p q k).length ≤ k := by
  have := List.length_filterMap_le (fun i : Nat => if wantC (x i) (p i) (q i) then some (i : Int) else none) (List.range k)
  simpa [dueK] using this
theorem dueK_comm (x p q : Nat → ByteArray) (k : Nat) : dueK x p q k = dueK x q p k := by
  unfold dueK
  congr 1
  funext i
  rw [wantC_comm]
theorem mLines_l3 (x p q : Nat → ByteArray) (m : Nat) : mLines (shelfOf (l3 x)) (shelfOf (l3 p)) (shelfOf (l3 q)) (3 + m) = l3 fun s => want (x s) (p s) (q s) := by
  induction m with
  | zero =>
    rw [mLines_succ, mLines_succ, mLines_succ]
    rw [l3_sh x 0 (by omega), l3_sh p 0 (by omega), l3_sh q 0 (by omega), l3_sh x 1 (by omega), l3_sh p 1 (by omega), l3_sh q 1 (by omega), l3_sh x 2 (by omega), l3_sh p 2 (by omega), l3_sh q 2 (by omega), mrg_want, mrg_want, mrg_want]
    rfl
  | succ m ih =>
    rw [show 3 + (m + 1) = (3 + m) + 1 from rfl, mLines_succ, ih, l3_far x _ (by omega), l3_far p _ (by omega), l3_far q _ (by omega)]
    simp [mrg, entEq_0]
theorem mClash_l3 (x p q : Nat → ByteArray) (m : Nat) : mClash (shelfOf (l3 x)) (shelfOf (l3 p)) (shelfOf (l3 q)) (3 + m) = dueK x p q 3 := by
  induction m with
  | zero =>
    rw [mClash_succ, mClash_succ, mClash_succ, dueK_succ, dueK_succ, dueK_succ]
    rw [l3_sh x 0 (by omega), l3_sh p 0 (by omega), l3_sh q 0 (by omega), l3_sh x 1 (by omega), l3_sh p 1 (by omega), l3_sh q 1 (by omega), l3_sh x 2 (by omega), l3_sh p 2 (by omega), l3_sh q 2 (by omega), mrg_want, mrg_want, mrg_want]
    rfl
  | succ m ih =>
    rw [show 3 + (m + 1) = (3 + m) + 1 from rfl, mClash_succ, ih, l3_far x _ (by omega), l3_far p _ (by omega), l3_far q _ (by omega)]
    simp [mrg, entEq_0]
theorem l3_book (f : Nat → ByteArray) (h : ∀ s, s < 3 → IsNm (f s)) : OkBook (l3 f) := by
  have hl : ∀ s : Nat, s < 3 → OkLine ⟨(s : Int), f s⟩ := fun s hs => by
    obtain ⟨_, h2, h3⟩ := h s hs
    exact ⟨by simp only; omega, by simp only; omega, by simp only; omega, fun i hi => by have := h3 i hi; show 32 ≤ ((f s)[i]'hi).toNat ∧ ((f s)[i]'hi).toNat ≤ 126; omega⟩
  refine ⟨?_, ?_, by simp [l3]⟩
  · intro l hl2
    simp only [l3, List.mem_cons, List.not_mem_nil, or_false] at hl2
    rcases hl2 with rfl | rfl | rfl
    · exact hl 0 (by omega)
    · exact hl 1 (by omega)
    · exact hl 2 (by omega)
  · intro k h
    have : k = 0 ∨ k = 1 := by simp [l3] at h; omega
    rcases this with rfl | rfl
    · show (0 : Int) < 1; omega
    · show (1 : Int) < 2; omega
/-- What the law says of a street that one of the clerks did not change. -/
theorem want_one (b : Nat → Bool) (chg : List S32) (ok : OkTown first3 chg) (s : Nat) (hs : s < 3) (h : hasSt (pick b chg chg.length) s = false ∨ hasSt (pick (fun i => !b i) chg chg.length) s = false) :
    want (lastN [] s) (lastN (pick b chg chg.length) s) (lastN (pick (fun i => !b i) chg chg.length) s) = lastN chg s ∧ wantC (lastN [] s) (lastN (pick b chg chg.length) s) (lastN (pick (fun i => !b i) chg chg.length) s) = false := by
  unfold lastN
  rcases h with h | h
  · obtain ⟨h1, h2⟩ := one_not b first3 chg ok s hs h
    rw [h1, h2]
    unfold want wantC
    by_cases e : nameAt first3 [] (s : Int) 1000 = nameAt first3 chg (s : Int) 1000 ∨ nameAt first3 chg (s : Int) 1000 = nameAt first3 [] (s : Int) 1000
    · rw [if_pos e]
      refine ⟨?_, by simp⟩
      rcases e with e | e
      · exact e
      · exact e.symm
    · rw [if_neg e]
      simp
  · obtain ⟨h1, h2⟩ := two_not b first3 chg ok s hs h
    rw [h1, h2]
    unfold want wantC
    simp
end Go.Proofs.Ytfbndhhogpacmaa
/-! TopClerksStreets: the contracts of what it calls, in the words of its walk. -/
namespace Go.Proofs.Ytfbndhhogpacmaa
open Go.RowKit Go.Shelf
open Go.Proofs.YtfbndhhogpacmaaW.PrintWords Go.Proofs.Ytfbndhhogpacmaa.T
set_option linter.unusedVariables false
set_option linter.unusedSimpArgs false
theorem Clash_any (A1 A2 : Option Addr) (k1 k2 : Nat) (first : List ByteArray) (chg : List S32) (ok : OkTown first chg) (w : World) (h1 : Kd.string.C w A1 first.length first) (h2 : k32.C w A2 chg.length chg) :
    Calls Try.prog 5 #[.agg #[.slice A1 first.length k1, .slice A2 chg.length k2]] w fun e w' => ∃ (h : Int) (A : Option Addr) (n c : Nat) (ec : Int), e = .returned (.tuple #[.int .i64 h, .slice A n c, .int .i64 ec]) ∧ ((ec = 6 ∧ GoodTown first chg) ∨ ec = 0) ∧ Below w.heap.size w w' := by
  rcases town_or ok with good | bad
  · refine (Clash_good A1 A2 k1 k2 first chg good w h1 h2).mono ?_
    rintro e w' ⟨rfl, hb⟩
    exact ⟨0, none, 0, 0, 6, rfl, .inl ⟨rfl, good⟩, hb⟩
  · refine (Clash_bad A1 A2 k1 k2 first chg ok bad w h1 h2).mono ?_
    rintro e w' ⟨a, g, n, c, rfl, hb⟩
    exact ⟨a, _, n, c, 0, rfl, .inr rfl, hb⟩
theorem good0 : GoodTown first3 [] := Town3.start.good (by simp)
theorem lastN_ok {chg : List S32} (good : GoodTown first3 chg) (s : Nat) (hs : s < 3) : IsNm (lastN chg s) := by
  unfold lastN nameAt
  have hl : ((s : Int).toNat) < (namesK first3 chg (cntLe chg 1000)).length := by rw [namesK_length]; show (s : Int).toNat < 3; omega
  rw [getD_at _ _ _ hl]
  exact namesK_ok first3 chg good.ok _ _ (List.getElem_mem hl)
theorem last_ok (A1 A2 : Option Addr) (k1 k2 : Nat) (chg : List S32) (good : GoodTown first3 chg) (h8 : ∀ c ∈ chg, In8 c.f2) (hk1 : 3 ≤ k1) (hk2 : chg.length ≤ k2) (w : World) (hC1 : Kd.string.C w A1 3 first3) (hC2 : k32.C w A2 chg.length chg) :
    Calls Try.prog 8 #[.agg #[.slice A1 3 k1, .slice A2 chg.length k2]] w fun e w' => ∃ g c, e = .returned (.tuple #[.slice (some ⟨g, 0, none⟩) 3 c, .bool true]) ∧ 3 ≤ c ∧ g < w'.heap.size ∧ k48.C w' (some ⟨g, 0, none⟩) 3 (l3 (lastN chg)) ∧ Below w.heap.size w w' := by
  refine (irisLast_ok A1 A2 k1 k2 chg good h8 hk1 hk2 w hC1 hC2).mono ?_
  rintro e w' ⟨v, rfl, hR, hb⟩
  obtain ⟨g, c, rfl, _, hg, _⟩ := Kd.R_form hR (by rw [lastK_length]; omega)
  have hr := Kd.R_reads' hR
  rw [lastK_length] at hr
  exact ⟨g, c, by rw [lastK_length], hr.2.1, hg, hr.2.2, hb⟩
theorem lines_ok (g c : Nat) (f : Nat → ByteArray) (hc : 3 ≤ c) (w : World) (hC : k48.C w (some ⟨g, 0, none⟩) 3 (l3 f)) :
    Calls Try.prog 10 #[.slice (some ⟨g, 0, none⟩) 3 c] w fun e w' => ∃ g2 c2, e = .returned (.slice (some ⟨g2, 0, none⟩) 3 c2) ∧ k48.C w' (some ⟨g2, 0, none⟩) 3 (l3 f) ∧ Below w.heap.size w w' := by
  refine (smaltotop_irisLines.calls (some ⟨g, 0, none⟩) c (l3 f) (l3 f) w hC hc (by unfold smaltotop_irisLines.f; rw [Option.bind_some, if_pos (by simp [l3]), List.nil_append])).mono ?_
  rintro e w' ⟨v, rfl, hR, hb⟩
  obtain ⟨g2, c2, rfl, _⟩ := Kd.R_form hR (by simp [l3])
  exact ⟨g2, c2, rfl, (Kd.R_reads' hR).2.2, hb⟩
theorem merge3_ok (g0 g1 g2 c0 c1 c2 : Nat) (x p q : Nat → ByteArray) (hx : ∀ s, s < 3 → IsNm (x s)) (hp : ∀ s, s < 3 → IsNm (p s)) (hq : ∀ s, s < 3 → IsNm (q s)) (w : World) (h0 : k48.C w (some ⟨g0, 0, none⟩) 3 (l3 x)) (h1 : k48.C w (some ⟨g1, 0, none⟩) 3 (l3 p)) (h2 : k48.C w (some ⟨g2, 0, none⟩) 3 (l3 q)) :
    Calls Try.prog 9 #[.slice (some ⟨g0, 0, none⟩) 3 c0, .slice (some ⟨g1, 0, none⟩) 3 c1, .slice (some ⟨g2, 0, none⟩) 3 c2] w fun e w' => ∃ g c A n, e = .returned (.tuple #[.slice (some ⟨g, 0, none⟩) 3 c, .slice A (dueK x p q 3).length n, .int .i64 0]) ∧ g < w'.heap.size ∧ (dueK x p q 3).length ≤ n
      ∧ k48.C w' (some ⟨g, 0, none⟩) 3 (l3 fun s => want (x s) (p s) (q s)) ∧ (Kd.int .i64).C w' A (dueK x p q 3).length (dueK x p q 3) ∧ Below w.heap.size w w' := by
  have hP : ∀ g, Plain (some ⟨g, 0, none⟩) := fun g ad e => ⟨g, by injection e with e; exact e.symm⟩
  have hl := mLines_l3 x p q 97
  have hk := mClash_l3 x p q 97
  refine (Merge_ok _ _ _ c0 c1 c2 (hP g0) (hP g1) (hP g2) (l3 x) (l3 p) (l3 q) (l3_book x hx) (l3_book p hp) (l3_book q hq) (by rw [hl]; simp [l3]) w h0 h1 h2).mono ?_
  rintro e w' ⟨v1, v2, rfl, hR1, hR2, hb⟩
  rw [hl] at hR1
  rw [hk] at hR2
  obtain ⟨g, c, rfl, _, hg, _⟩ := Kd.R_form hR1 (by simp [l3])
  obtain ⟨A, n, rfl⟩ := Kd.R_slice hR2
  exact ⟨g, c, A, n, rfl, hg, (Kd.R_reads' hR2).2.1, (Kd.R_reads' hR1).2.2, (Kd.R_reads' hR2).2.2, hb⟩
theorem same_l0 (l : List Int) (hl : l.length ≤ 1000) : ∀ (m i : Nat), i + m = l.length → smaltotop_sloeSame.l0 (m + 1) l l (i : Int) = some true := by
  intro m
  induction m with
  | zero =>
    intro i hi
    rw [smaltotop_sloeSame.l0, if_neg (by omega)]
  | succ m ih =>
    intro i hi
    rw [smaltotop_sloeSame.l0, if_pos (by omega), if_pos (by omega), if_pos (by omega), if_pos rfl, wrap_nat i (by omega)]
    exact ih (i + 1) (by omega)
theorem same_ok (A0 A1 : Option Addr) (c0 c1 : Nat) (l : List Int) (hl : l.length ≤ 1000) (w : World) (h0 : (Kd.int .i64).C w A0 l.length l) (hc0 : l.length ≤ c0) (h1 : (Kd.int .i64).C w A1 l.length l) (hc1 : l.length ≤ c1) :
    Calls Try.prog 11 #[.slice A0 l.length c0, .slice A1 l.length c1] w fun e w' => e = .returned (.bool true) ∧ Below w.heap.size w w' := by
  refine (smaltotop_sloeSame.calls (l.length + 1) A0 c0 l A1 c1 l true w h0 hc0 h1 hc1 (by unfold smaltotop_sloeSame.f; rw [if_pos rfl]; exact same_l0 l hl l.length 0 (by omega))).mono ?_
  rintro e w' ⟨rfl, hd⟩
  exact ⟨rfl, by obtain ⟨n, rfl⟩ := hd; exact pw_below_drewN (Below.refl _ _) n⟩
/-- Which clerk changed which street, as it lies in memory. -/
def byA (f g : Nat → Bool) : Array Value := #[.bool (f 0), .bool (g 0), .bool (f 1), .bool (g 1), .bool (f 2), .bool (g 2)]
theorem byA_one (f g : Nat → Bool) (s : Nat) (hs : s < 3) : (byA f g).setIfInBounds (s * 2) (.bool true) = byA (fun i => f i || decide (s = i)) g := by
  have : s = 0 ∨ s = 1 ∨ s = 2 := by omega
  rcases this with rfl | rfl | rfl <;> simp [byA]
theorem byA_two (f g : Nat → Bool) (s : Nat) (hs : s < 3) : (byA f g).setIfInBounds (s * 2 + 1) (.bool true) = byA f (fun i => g i || decide (s = i)) := by
  have : s = 0 ∨ s = 1 ∨ s = 2 := by omega
  rcases this with rfl | rfl | rfl <;> simp [byA]
theorem byA_at1 (f g : Nat → Bool) (s : Nat) (hs : s < 3) : (byA f g)[s * 2]? = some (.bool (f s)) := by
  have : s = 0 ∨ s = 1 ∨ s = 2 := by omega
  rcases this with rfl | rfl | rfl <;> rfl
theorem byA_at2 (f g : Nat → Bool) (s : Nat) (hs : s < 3) : (byA f g)[s * 2 + 1]? = some (.bool (g s)) := by
  have : s = 0 ∨ s = 1 ∨ s = 2 := by omega
  rcases this with rfl | rfl | rfl <;> rfl
theorem line_read {W : World} {g : Nat} {f : Nat → ByteArray} (h : k48.C W (some ⟨g, 0, none⟩) 3 (l3 f)) (s : Nat) (hs : s < 3) : W.cell? ⟨g, s * 2, none⟩ = some (.int .i64 s) ∧ W.cell? ⟨g, s * 2 + 1, none⟩ = some (.string (f s)) := by
  obtain ⟨g', e, h0, h1⟩ := at84 (A := some ⟨g, 0, none⟩) (fun ad e => ⟨g, by injection e with e; exact e.symm⟩) (l := l3 f) h s hs
  cases e
  have hd : ((l3 f)[s]'hs) = ⟨(s : Int), f s⟩ := by
    have : s = 0 ∨ s = 1 ∨ s = 2 := by omega
    rcases this with rfl | rfl | rfl <;> rfl
  rw [hd] at h0 h1
  exact ⟨h0, h1⟩
theorem chg_block {w : World} {g : Nat} {a s : Int} {nm : ByteArray} (h : w.heap[g]? = some (.cells #[.int .i64 a, .int .i64 s, .string nm] 32 (0, 0))) : k32.C w (some ⟨g, 0, none⟩) 1 [⟨a, s, nm⟩] :=
  C_block k32 h (xs := [⟨a, s, nm⟩]) ((Reps.none _ _).snoc (k32_mk _ _) rfl) (by simp)
/-- Behind an append the row still lies apart from another one. -/
theorem own_apart {α : Type} {d : Kd α} {e base : Nat} {ok : Nat → Prop} {W : World} {v u v1 : Value} {ys : List α} (hne : ∀ k, v.ownBlock = some k → some k ≠ u.ownBlock) (hr : d.R e W base ok u ys) (hat : v1.ownBlock = v.ownBlock ∨ ∃ b, v1.ownBlock = some b ∧ W.heap.size ≤ b) : ∀ k, v1.ownBlock = some k → some k ≠ u.ownBlock := by
  intro k hk e_
  rcases hat with h | ⟨b, h1, h2⟩
  · exact hne k (h.symm.trans hk) e_
  · have := Kd.R_lt hr k e_.symm
    rw [hk] at h1
    injection h1 with h1
    omega
theorem who_last {chg : List S32} (good : GoodTown first3 chg) (s : Nat) (hs : s < 3) (A1 A2 : Option Addr) (k1 k2 : Nat) (w : World) (hC1 : Kd.string.C w A1 3 first3) (hC2 : k32.C w A2 chg.length chg) :
    Calls Try.prog 12 #[.agg #[.slice A1 3 k1, .slice A2 chg.length k2], .string (lastN chg s), .int .i64 1000] w fun e w' => e = .returned (.tuple #[.int .i64 s, .int .i64 0]) ∧ Below w.heap.size w w' :=
  Who_ok A1 A2 k1 k2 first3 chg good (s : Int) 1000 (by omega) (by show (s : Int) < 3; omega) (by omega) (by omega) (lastN_ok good s hs) w hC1 hC2
theorem dueK_nil (x p q : Nat → ByteArray) (k : Nat) (h : ∀ s, s < k → wantC (x s) (p s) (q s) = false) : dueK x p q k = [] := by
  induction k with
  | zero => rfl
  | succ k ih =>
    rw [dueK_succ, ih (fun s hs => h s (by omega)), h k (by omega)]
    rfl
end Go.Proofs.Ytfbndhhogpacmaa
