/- FnExactIsPrefix answers true at every input of bulk at most 1048576: both functions compute the same. Conditions: none beyond the statement. -/
import Derived.Test.YtgabgcogeedclaaRows
import Derived.Test.YtgabgcogeedclaaFa
import Derived.WalkKit
import Derived.ProofKit
import Derived.OpenShut
import Derived.JoinedCond
set_option linter.unusedVariables false
set_option linter.unusedSimpArgs false
namespace Go.Proofs.Ytgabgcogeedclaa
open Go.Lf
theorem sz_IntS (x : (List Int)) (h : SmallT tLI x) (n : Int) (h0 : 0 ≤ n) (h1 : n ≤ 1048576) : ∃ r, f_laws_szIntS x n = some r ∧ -1 ≤ r ∧ r ≤ n := by
  have hl : x.length ≤ 1048576 := small_len h
  rw [f_laws_szIntS_eq, wr (by omega) (by omega)]
  by_cases hn : n - (x.length : Int) < 0
  · exact ⟨-1, by simp [hn], by omega, by omega⟩
  · exact ⟨n - (x.length : Int), by simp [hn], by omega, by omega⟩
theorem sz_Access (x : (Int × (List Int))) (h : SmallT tPILI x) (n : Int) (h0 : 0 ≤ n) (h1 : n ≤ 1048576) : ∃ r, f_laws_szAccess x n = some r ∧ -1 ≤ r ∧ r ≤ n := by
  rw [f_laws_szAccess_eq]
  obtain ⟨r0, a0, b0, c0⟩ := sz_IntS x.2 h.2 n (by omega) (by omega)
  simp only [a0, Option.bind_some]
  by_cases n0 : r0 < 0
  · exact ⟨-1, by simp [n0], by omega, by omega⟩
  simp only [n0, decide_false, cond_false]
  exact ⟨r0, rfl, by omega, by omega⟩
theorem sz_AccessS (x : (List (Int × (List Int)))) (h : SmallT tLPILI x) (n : Int) (h0 : 0 ≤ n) (h1 : n ≤ 1048576) : ∃ r, f_laws_szAccessS x n = some r ∧ -1 ≤ r ∧ r ≤ n := by
  have hl : x.length ≤ 1048576 := small_len h
  rw [f_laws_szAccessS_eq, wr (by omega) (by omega)]
  by_cases hn : n - (x.length : Int) < 0
  · exact ⟨-1, by simp [hn], by omega, by omega⟩
  · simp only [hn, decide_false, cond_false]
    obtain ⟨r, e1, e2, e3⟩ := sz_loop (xs := x) (L := fun i s => l1_laws_szAccessS x s i) (by omega) (fun s => by rw [l1_laws_szAccessS_eq]; simp) (fun i a s ha hat hlt hw h0 h1 => by
      obtain ⟨r, e1, e2, e3⟩ := sz_Access a (small_mem h ha) s h0 h1
      refine ⟨r, e2, e3, ?_⟩
      rw [l1_laws_szAccessS_eq]
      simp only [hat, hlt, hw, e1, cond_true, Option.bind_some]) (n - (x.length : Int)) (by omega) (by omega)
    exact ⟨r, e1, e2, by omega⟩
theorem to_IntS (x : (List Int)) (h : SmallT tLI x) : f_laws_toIntS x = some x := by
  have hl : x.length ≤ 1048576 := small_len h
  rw [f_laws_toIntS_eq, mkOk_of (by omega)]
  have := scan_copy (xs := x) (g := id) (z := (0 : Int)) (L := fun i s => l1_laws_toIntS x s i) (by omega) (fun s => by rw [l1_laws_toIntS_eq]; simp) (fun i a s hat hlt hw hs hb => by
    obtain ⟨b, hb⟩ := hb
    rw [l1_laws_toIntS_eq]
    simp only [hat, hlt, hw, hb, cond_true, Option.bind_some, Int.toNat_natCast, id])
  simpa using this
theorem to_Access (x : (Int × (List Int))) (h : SmallT tPILI x) : f_laws_toAccess x = some x := by
  simp only [f_laws_toAccess_eq, to_IntS _ h.2, Option.bind_some]
theorem to_AccessS (x : (List (Int × (List Int)))) (h : SmallT tLPILI x) : f_laws_toAccessS x = some x := by
  have hl : x.length ≤ 1048576 := small_len h
  rw [f_laws_toAccessS_eq, mkOk_of (by omega)]
  have := scan_copy (xs := x) (g := id) (z := ((0 : Int), ([] : List Int))) (L := fun i s => l1_laws_toAccessS x s i) (by omega) (fun s => by rw [l1_laws_toAccessS_eq]; simp) (fun i a s hat hlt hw hs hb => by
    obtain ⟨b, hb⟩ := hb
    rw [l1_laws_toAccessS_eq]
    simp only [hat, hlt, hw, hb, cond_true, Option.bind_some, Int.toNat_natCast, id, to_Access a (small_mem h (at_mem hat))])
  simpa using this
theorem eq_IntS (x : (List Int)) (h : SmallT tLI x) : f_laws_eqIntS x x = some true := by
  have hl : x.length ≤ 1048576 := small_len h
  rw [f_laws_eqIntS_eq]
  have := all_loop (xs := x) (L := fun i => l1_laws_eqIntS x x i) (p := fun _ => true) (by omega) (by rw [l1_laws_eqIntS_eq]; simp) (fun i a ha hat hlt hw => by
    rw [l1_laws_eqIntS_eq]
    simp only [hat, hlt, hw, cond_true, Option.bind_some]; simp)
  simpa [all_true] using this
theorem eq_Access (x : (Int × (List Int))) (h : SmallT tPILI x) : f_laws_eqAccess x x = some true := by
  rw [f_laws_eqAccess_eq]
  simp [eq_IntS _ h.2]
theorem eq_AccessS (x : (List (Int × (List Int)))) (h : SmallT tLPILI x) : f_laws_eqAccessS x x = some true := by
  have hl : x.length ≤ 1048576 := small_len h
  rw [f_laws_eqAccessS_eq]
  have := all_loop (xs := x) (L := fun i => l1_laws_eqAccessS x x i) (p := fun _ => true) (by omega) (by rw [l1_laws_eqAccessS_eq]; simp) (fun i a ha hat hlt hw => by
    rw [l1_laws_eqAccessS_eq]
    simp only [hat, hlt, hw, cond_true, Option.bind_some, eq_Access a (small_mem h ha)]; simp)
  simpa [all_true] using this
theorem l2Ints_val (x y : List Int) (h : x.length < 4611686018427387904) : f_spec_l2Ints x y = some (decide (x = y)) := by
  rw [f_spec_l2Ints_eq, bne_len]
  by_cases hl : x.length = y.length
  · have := eq_loop (xs := x) (ys := y) (L := fun i => l1_spec_l2Ints x y i) h hl (by rw [l1_spec_l2Ints_eq]; simp) (fun i a b ha hb hat hbt hlt hw => by
      rw [l1_spec_l2Ints_eq]
      simp only [hat, hbt, hlt, hw, cond_true, Option.bind_some, bne_dec]
      cases decide (a = b) <;> rfl)
    simp [hl, this]
  · rw [ne_of_len hl]; simp [hl]

theorem equal_int_val (x y : List Int) (h : x.length < 4611686018427387904) : f_slices_Equal_int x y = some (decide (x = y)) := by
  rw [f_slices_Equal_int_eq, bne_len]
  by_cases hl : x.length = y.length
  · have := eq_loop (xs := x) (ys := y) (L := fun i => l1_slices_Equal_int x y (x.length : Int) i) h hl (by rw [l1_slices_Equal_int_eq]; simp) (fun i a b ha hb hat hbt hlt hw => by
      rw [l1_slices_Equal_int_eq]
      simp only [hat, hbt, hlt, hw, cond_true, Option.bind_some, bne_dec]
      cases decide (a = b) <;> rfl)
    simp [hl] at this ⊢
    exact this
  · rw [ne_of_len hl]; simp [hl]

theorem l5Same_val (a b : Int × List Int) (h : a.2.length < 4611686018427387904) : f_spec_l5Same a b = some (decide (a = b)) := by
  rw [f_spec_l5Same_eq, l2Ints_val _ _ h, pair_dec, beq_dec]
  cases decide (a.1 = b.1) <;> simp
theorem sameAccess_val (a b : Int × List Int) (h : a.2.length < 4611686018427387904) : f_impl_sameAccess a b = some (decide (a = b)) := by
  rw [f_impl_sameAccess_eq, equal_int_val _ _ h, pair_dec, beq_dec]
  cases decide (a.1 = b.1) <;> simp
theorem spec_sameAccesses_val (x y : List (Int × List Int)) (h : x.length < 4611686018427387904) (h2 : ∀ a ∈ x, a.2.length < 4611686018427387904) : f_spec_SameAccesses x y = some (decide (x = y)) := by
  rw [f_spec_SameAccesses_eq, bne_len]
  by_cases hl : x.length = y.length
  · have := eq_loop (xs := x) (ys := y) (L := fun i => l1_spec_SameAccesses x y i) h hl (by rw [l1_spec_SameAccesses_eq]; simp) (fun i a b ha hb hat hbt hlt hw => by
      rw [l1_spec_SameAccesses_eq]
      simp only [hat, hbt, hlt, hw, cond_true, Option.bind_some, l5Same_val a b (h2 a ha)]
      cases decide (a = b) <;> rfl)
    simp [hl, this]
  · rw [ne_of_len hl]; simp [hl]
theorem impl_sameAccesses_val (x y : List (Int × List Int)) (h : x.length < 4611686018427387904) (h2 : ∀ a ∈ x, a.2.length < 4611686018427387904) : f_impl_SameAccesses x y = some (decide (x = y)) := by
  rw [f_impl_SameAccesses_eq, f_slices_EqualFunc_Access__impl_sameAccess_eq, bne_len]
  by_cases hl : x.length = y.length
  · have := eq_loop (xs := x) (ys := y) (L := fun i => l1_slices_EqualFunc_Access__impl_sameAccess y x (x.length : Int) i) h hl (by rw [l1_slices_EqualFunc_Access__impl_sameAccess_eq]; simp) (fun i a b ha hb hat hbt hlt hw => by
      rw [l1_slices_EqualFunc_Access__impl_sameAccess_eq]
      simp only [hat, hbt, hlt, hw, cond_true, Option.bind_some, sameAccess_val a b (h2 a ha)]
      cases decide (a = b) <;> rfl)
    simp only [hl, decide_true, Bool.not_true, cond_false] at this ⊢
    rw [this]; rfl
  · rw [ne_of_len hl]; simp [hl]

def isPrefixV (x y : List (Int × List Int)) : Bool := decide (x.length ≤ y.length) && decide (x = y.take x.length)
theorem spec_isPrefix_val (x y : List (Int × List Int)) (h : x.length < 4611686018427387904) (h2 : ∀ a ∈ x, a.2.length < 4611686018427387904) : f_spec_IsPrefix x y = some (isPrefixV x y) := by
  rw [f_spec_IsPrefix_eq, spec_sameAccesses_val _ _ h h2]
  unfold isPrefixV
  by_cases hl : x.length ≤ y.length
  · have : (x.length : Int) ≤ (y.length : Int) := by omega
    simp [this, hl]
  · have : ¬ (x.length : Int) ≤ (y.length : Int) := by omega
    simp [this, hl]
theorem impl_isPrefix_val (x y : List (Int × List Int)) (h : x.length < 4611686018427387904) (h2 : ∀ a ∈ x, a.2.length < 4611686018427387904) : f_impl_IsPrefix x y = some (isPrefixV x y) := by
  rw [f_impl_IsPrefix_eq, impl_sameAccesses_val _ _ h h2]
  unfold isPrefixV
  by_cases hl : x.length ≤ y.length
  · have : (x.length : Int) ≤ (y.length : Int) := by omega
    simp [this, hl]
  · have : ¬ (x.length : Int) ≤ (y.length : Int) := by omega
    simp [this, hl]

theorem law_FnExactIsPrefix (x0 x1 : List (Int × List Int)) (hb : bulkT tLPILI x0 + bulkT tLPILI x1 ≤ 1048576) : f_laws_FnExactIsPrefix x0 x1 = some true := by
  have hs0 := small_of tLPILI x0 (by omega)
  have hs1 := small_of tLPILI x1 (by omega)
  have hl : x0.length ≤ 1048576 := small_len hs0
  rw [f_laws_FnExactIsPrefix_eq]
  obtain ⟨r, e1, e2, e3⟩ := sz_AccessS x0 hs0 1048576 (by omega) (by omega)
  rw [e1, Option.bind_some]
  by_cases hr : r < 0
  · simp [hr]
  obtain ⟨r', e1', e2', e3'⟩ := sz_AccessS x1 hs1 r (by omega) (by omega)
  rw [e1']
  by_cases hr' : r' < 0
  · simp [hr, hr']
  have h2 : ∀ a ∈ x0, a.2.length < 4611686018427387904 := fun a ha => by have : a.2.length ≤ 1048576 := small_len (small_mem hs0 ha).2; omega
  simp only [hr, hr', decide_false, cond_false, to_AccessS _ hs0, to_AccessS _ hs1, Option.bind_some, spec_isPrefix_val x0 x1 (by omega) h2, impl_isPrefix_val x0 x1 (by omega) h2, eq_AccessS _ hs0, eq_AccessS _ hs1]
  simp

namespace fnExactIsPrefix
open Go.ChangeShapes Go.WideShapes Go.ChangeAt Go.RowKit
theorem own : ownKnob Try.prog.godebug = none := by kernel_rfl
theorem bulk (H : Type) : Go.Lf.Bulk H Rows.uptoBulk Rows.uptoBulkAll where
  str s := by simp [Rows.uptoBulk]
  sl e s := by simp [Rows.uptoBulk]
  ag p := by simp [Rows.uptoBulk]
  nil := by simp [Rows.uptoBulkAll]
  cons d r := by simp [Rows.uptoBulkAll]
  one d := by cases d <;> first | (simp [Rows.uptoBulk]) | (rename_i l; cases l <;> simp [Rows.uptoBulk])
theorem hspec (H : Type) : ∀ ds : List (DataW H), ds.length = 2 → Rows.fnExactIsPrefixSpec.fn H ds = { results := [.lit (.bool true)], args := ds }
  | [_, _], _ => rfl
  | [], h => by simp at h
  | [_], h => by simp at h
  | _ :: _ :: _ :: _, h => by simp at h
theorem contract (H : Type) (enc : TypeId × Value → H) (W : World) (base : Nat) (args : Array Value) (ds gs : List (DataW H)) (before : List MemPlace)
    (hval : ∀ (j : Nat) t v, Try.f8.params[j]? = some t → args[j]? = some v → Value.okWide Try.prog W .any base t v)
    (hW : DataW.Whole enc Try.prog Try.f8.params.toList Rows.fnExactIsPrefixSpec.vars false W args.toList ds gs before) (hk : Rows.uptoSmall H (ds ++ gs) = true) :
    Calls Try.prog 8 args W fun e W' => ∃ v, e = .returned v ∧ Rows.fnExactIsPrefixSpec.post enc Try.prog Try.f8 false true false false W args v W' :=
  Go.Lf.law_contract (P := Try.prog) (fn := Try.f8) (c := n_laws_FnExactIsPrefix) g_laws_FnExactIsPrefix (tids := [40, 40]) (τs := [tLPILI, tLPILI]) (by kernel_rfl) (by kernel_rfl) (by kernel_rfl) (by kernel_rfl)
    (by decide) (by kernel_rfl) (of_decide_eq_true (by kernel_rfl)) (tb := 4) (by kernel_rfl) (by kernel_rfl)
    (s := Rows.fnExactIsPrefixSpec) rfl (hspec H) (bulk H) (N := 1048576) (fun l hl hw hb => Go.Lf.law_of_all (N := 1048576) (τs := [tLPILI, tLPILI]) (f := f_laws_FnExactIsPrefix) (b := 0) (fun x0 w0 x1 w1 hb => law_FnExactIsPrefix x0 x1 (by omega)) l hl hw (by omega)) W base args ds gs before hval hW (of_decide_eq_true hk)
set_option maxRecDepth 100000 in
theorem lifted (os : Os) (started : os.Started) (H : Type) (enc : TypeId × Value → H) (F : Stop.Interp) :
    ReturnsInHanded {} Try.checked os 8 .any ((Rows.OpenSpec.upto Rows.fnExactIsPrefixSpec).pre6 enc Try.prog Try.f8 Rows.fnExactIsPrefixUptoRow.domain false) (((Rows.OpenSpec.upto Rows.fnExactIsPrefixSpec).at F).post enc Try.prog Try.f8 false true false false) := by
  refine returnsInHanded_of_cond (C := Try.checked) (s := Rows.OpenSpec.upto Rows.fnExactIsPrefixSpec) (k := Rows.uptoSmall) rfl own started (by kernel_rfl) Try.func8
    (OpenSpec.witness (enc := enc) (C := Try.checked) (s := Rows.OpenSpec.upto Rows.fnExactIsPrefixSpec) (k := Rows.uptoSmall) rfl false ⟨#[], #[.slice none 0 0, .slice none 0 0], []⟩ 8 (by kernel_rfl) (by kernel_rfl) (by kernel_rfl)
      (x := ([.nil, .nil], [], [])) (by kernel_rfl) rfl (by kernel_rfl)) ?_
  intro W base args ds gs before hval hW _ hk _
  exact contract H enc W base args ds gs before hval hW hk
theorem over : Rows.fnExactIsPrefixUptoRow.holds Try.pinned (Rows.OpenSpec.upto Rows.fnExactIsPrefixSpec) :=
  OpenClaim.holds_of_cond 8 Try.f8 rfl rfl rfl rfl rfl rfl rfl ⟨rfl, rfl, rfl, rfl, rfl⟩ rfl rfl rfl rfl rfl (by kernel_rfl) Try.func8 (by kernel_rfl)
    (of_decide_eq_true (by kernel_rfl)) (by unfold Func.isWrapper; first | (rw [if_pos (by decide +kernel)]; kernel_rfl) | (rw [if_neg (by decide +kernel)]; exact ⟨rfl, rfl⟩))
    (fun os started H enc _ F => lifted os started H enc F)
theorem proved : Rows.FnExactIsPrefixUptoSaid :=
  over
end fnExactIsPrefix
end Go.Proofs.Ytgabgcogeedclaa
