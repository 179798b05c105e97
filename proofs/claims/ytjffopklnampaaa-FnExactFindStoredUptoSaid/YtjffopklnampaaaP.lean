/- FnExactFindStored answers true at every input of bulk at most 1048576: both functions compute the same. Conditions: none beyond the statement. -/
import Derived.Test.YtjffopklnampaaaRows
import Derived.Test.YtjffopklnampaaaFa
import Derived.WalkKit
import Derived.ProofKit
import Derived.OpenShut
import Derived.JoinedCond
set_option linter.unusedVariables false
set_option linter.unusedSimpArgs false
namespace Go.Proofs.Ytjffopklnampaaa
open Go.Lf
theorem sz_IntS (x : (List Int)) (h : SmallT tLI x) (n : Int) (h0 : 0 ≤ n) (h1 : n ≤ 1048576) : ∃ r, f_laws_szIntS x n = some r ∧ -1 ≤ r ∧ r ≤ n := by
  have hl : x.length ≤ 1048576 := small_len h
  rw [f_laws_szIntS_eq, wr (by omega) (by omega)]
  by_cases hn : n - (x.length : Int) < 0
  · exact ⟨-1, by simp [hn], by omega, by omega⟩
  · exact ⟨n - (x.length : Int), by simp [hn], by omega, by omega⟩
theorem sz_Access (x : (Int × (List Int))) (h : SmallT tPILI x) (n : Int) (h0 : 0 ≤ n) (h1 : n ≤ 1048576) : ∃ r, f_laws_szAccess x n = some r ∧ -1 ≤ r ∧ r ≤ n := by
  rw [f_laws_szAccess_eq]
  obtain ⟨r0, a0, b0, c0⟩ := sz_IntS x.2 h.2 n (by omega) (by omega)
  simp only [a0, Option.bind_some]
  by_cases n0 : r0 < 0
  · exact ⟨-1, by simp [n0], by omega, by omega⟩
  simp only [n0, decide_false, cond_false]
  exact ⟨r0, rfl, by omega, by omega⟩
theorem sz_Fact (x : (Int × (List Int))) (h : SmallT tPILI x) (n : Int) (h0 : 0 ≤ n) (h1 : n ≤ 1048576) : ∃ r, f_laws_szFact x n = some r ∧ -1 ≤ r ∧ r ≤ n := by
  rw [f_laws_szFact_eq]
  obtain ⟨r0, a0, b0, c0⟩ := sz_IntS x.2 h.2 n (by omega) (by omega)
  simp only [a0, Option.bind_some]
  by_cases n0 : r0 < 0
  · exact ⟨-1, by simp [n0], by omega, by omega⟩
  simp only [n0, decide_false, cond_false]
  exact ⟨r0, rfl, by omega, by omega⟩
theorem sz_FactS (x : (List (Int × (List Int)))) (h : SmallT tLPILI x) (n : Int) (h0 : 0 ≤ n) (h1 : n ≤ 1048576) : ∃ r, f_laws_szFactS x n = some r ∧ -1 ≤ r ∧ r ≤ n := by
  have hl : x.length ≤ 1048576 := small_len h
  rw [f_laws_szFactS_eq, wr (by omega) (by omega)]
  by_cases hn : n - (x.length : Int) < 0
  · exact ⟨-1, by simp [hn], by omega, by omega⟩
  · simp only [hn, decide_false, cond_false]
    obtain ⟨r, e1, e2, e3⟩ := sz_loop (xs := x) (L := fun i s => l1_laws_szFactS x s i) (by omega) (fun s => by rw [l1_laws_szFactS_eq]; simp) (fun i a s ha hat hlt hw h0 h1 => by
      obtain ⟨r, e1, e2, e3⟩ := sz_Fact a (small_mem h ha) s h0 h1
      refine ⟨r, e2, e3, ?_⟩
      rw [l1_laws_szFactS_eq]
      simp only [hat, hlt, hw, e1, cond_true, Option.bind_some]) (n - (x.length : Int)) (by omega) (by omega)
    exact ⟨r, e1, e2, by omega⟩
theorem sz_Stored (x : ((Int × (List Int)) × ((List (Int × (List Int))) × Int))) (h : SmallT tPPILIPLPILII x) (n : Int) (h0 : 0 ≤ n) (h1 : n ≤ 1048576) : ∃ r, f_laws_szStored x n = some r ∧ -1 ≤ r ∧ r ≤ n := by
  rw [f_laws_szStored_eq]
  obtain ⟨r0, a0, b0, c0⟩ := sz_Access x.1 h.1 n (by omega) (by omega)
  simp only [a0, Option.bind_some]
  by_cases n0 : r0 < 0
  · exact ⟨-1, by simp [n0], by omega, by omega⟩
  simp only [n0, decide_false, cond_false]
  obtain ⟨r1, a1, b1, c1⟩ := sz_FactS x.2.1 h.2.1 r0 (by omega) (by omega)
  simp only [a1, Option.bind_some]
  by_cases n1 : r1 < 0
  · exact ⟨-1, by simp [n1], by omega, by omega⟩
  simp only [n1, decide_false, cond_false]
  exact ⟨r1, rfl, by omega, by omega⟩
theorem sz_StoredS (x : (List ((Int × (List Int)) × ((List (Int × (List Int))) × Int)))) (h : SmallT tL8780a x) (n : Int) (h0 : 0 ≤ n) (h1 : n ≤ 1048576) : ∃ r, f_laws_szStoredS x n = some r ∧ -1 ≤ r ∧ r ≤ n := by
  have hl : x.length ≤ 1048576 := small_len h
  rw [f_laws_szStoredS_eq, wr (by omega) (by omega)]
  by_cases hn : n - (x.length : Int) < 0
  · exact ⟨-1, by simp [hn], by omega, by omega⟩
  · simp only [hn, decide_false, cond_false]
    obtain ⟨r, e1, e2, e3⟩ := sz_loop (xs := x) (L := fun i s => l1_laws_szStoredS x s i) (by omega) (fun s => by rw [l1_laws_szStoredS_eq]; simp) (fun i a s ha hat hlt hw h0 h1 => by
      obtain ⟨r, e1, e2, e3⟩ := sz_Stored a (small_mem h ha) s h0 h1
      refine ⟨r, e2, e3, ?_⟩
      rw [l1_laws_szStoredS_eq]
      simp only [hat, hlt, hw, e1, cond_true, Option.bind_some]) (n - (x.length : Int)) (by omega) (by omega)
    exact ⟨r, e1, e2, by omega⟩
theorem sz_Cache (x : ((List ((Int × (List Int)) × ((List (Int × (List Int))) × Int))) × Int)) (h : SmallT tP4d7df x) (n : Int) (h0 : 0 ≤ n) (h1 : n ≤ 1048576) : ∃ r, f_laws_szCache x n = some r ∧ -1 ≤ r ∧ r ≤ n := by
  rw [f_laws_szCache_eq]
  obtain ⟨r0, a0, b0, c0⟩ := sz_StoredS x.1 h.1 n (by omega) (by omega)
  simp only [a0, Option.bind_some]
  by_cases n0 : r0 < 0
  · exact ⟨-1, by simp [n0], by omega, by omega⟩
  simp only [n0, decide_false, cond_false]
  exact ⟨r0, rfl, by omega, by omega⟩
theorem to_IntS (x : (List Int)) (h : SmallT tLI x) : f_laws_toIntS x = some x := by
  have hl : x.length ≤ 1048576 := small_len h
  rw [f_laws_toIntS_eq, mkOk_of (by omega)]
  have := scan_copy (xs := x) (g := id) (z := (0 : Int)) (L := fun i s => l1_laws_toIntS x s i) (by omega) (fun s => by rw [l1_laws_toIntS_eq]; simp) (fun i a s hat hlt hw hs hb => by
    obtain ⟨b, hb⟩ := hb
    rw [l1_laws_toIntS_eq]
    simp only [hat, hlt, hw, hb, cond_true, Option.bind_some, Int.toNat_natCast, id])
  simpa using this
theorem to_Access (x : (Int × (List Int))) (h : SmallT tPILI x) : f_laws_toAccess x = some x := by
  rw [f_laws_toAccess_eq, to_IntS x.2 h.2]; rfl
theorem to_Fact (x : (Int × (List Int))) (h : SmallT tPILI x) : f_laws_toFact x = some x := by
  rw [f_laws_toFact_eq, to_IntS x.2 h.2]; rfl
theorem to_FactS (x : (List (Int × (List Int)))) (h : SmallT tLPILI x) : f_laws_toFactS x = some x := by
  have hl : x.length ≤ 1048576 := small_len h
  rw [f_laws_toFactS_eq, mkOk_of (by omega)]
  have := scan_copy (xs := x) (g := id) (z := ((0 : Int), ([] : List Int))) (L := fun i s => l1_laws_toFactS x s i) (by omega) (fun s => by rw [l1_laws_toFactS_eq]; simp) (fun i a s hat hlt hw hs hb => by
    obtain ⟨b, hb⟩ := hb
    rw [l1_laws_toFactS_eq]
    simp only [hat, hlt, hw, hb, cond_true, Option.bind_some, Int.toNat_natCast, id, to_Fact a (small_mem h (at_mem hat))])
  simpa using this
theorem to_Stored (x : ((Int × (List Int)) × ((List (Int × (List Int))) × Int))) (h : SmallT tPPILIPLPILII x) : f_laws_toStored x = some x := by
  rw [f_laws_toStored_eq, to_Access x.1 h.1, to_FactS x.2.1 h.2.1]; rfl
theorem to_StoredS (x : (List ((Int × (List Int)) × ((List (Int × (List Int))) × Int)))) (h : SmallT tL8780a x) : f_laws_toStoredS x = some x := by
  have hl : x.length ≤ 1048576 := small_len h
  rw [f_laws_toStoredS_eq, mkOk_of (by omega)]
  have := scan_copy (xs := x) (g := id) (z := (((0 : Int), ([] : List Int)), (([] : List (Int × (List Int))), (0 : Int)))) (L := fun i s => l1_laws_toStoredS x s i) (by omega) (fun s => by rw [l1_laws_toStoredS_eq]; simp) (fun i a s hat hlt hw hs hb => by
    obtain ⟨b, hb⟩ := hb
    rw [l1_laws_toStoredS_eq]
    simp only [hat, hlt, hw, hb, cond_true, Option.bind_some, Int.toNat_natCast, id, to_Stored a (small_mem h (at_mem hat))])
  simpa using this
theorem to_Cache (x : ((List ((Int × (List Int)) × ((List (Int × (List Int))) × Int))) × Int)) (h : SmallT tP4d7df x) : f_laws_toCache x = some x := by
  rw [f_laws_toCache_eq, to_StoredS x.1 h.1]; rfl
theorem eq_IntS (x : (List Int)) (h : SmallT tLI x) : f_laws_eqIntS x x = some true := by
  have hl : x.length ≤ 1048576 := small_len h
  rw [f_laws_eqIntS_eq]
  have := all_loop (xs := x) (L := fun i => l1_laws_eqIntS x x i) (p := fun _ => true) (by omega) (by rw [l1_laws_eqIntS_eq]; simp) (fun i a ha hat hlt hw => by
    rw [l1_laws_eqIntS_eq]
    simp only [hat, hlt, hw, cond_true, Option.bind_some]; simp)
  simpa [all_true] using this
theorem eq_Access (x : (Int × (List Int))) (h : SmallT tPILI x) : f_laws_eqAccess x x = some true := by
  rw [f_laws_eqAccess_eq]
  simp [eq_IntS _ h.2]
theorem eq_Fact (x : (Int × (List Int))) (h : SmallT tPILI x) : f_laws_eqFact x x = some true := by
  rw [f_laws_eqFact_eq]
  simp [eq_IntS _ h.2]
theorem eq_FactS (x : (List (Int × (List Int)))) (h : SmallT tLPILI x) : f_laws_eqFactS x x = some true := by
  have hl : x.length ≤ 1048576 := small_len h
  rw [f_laws_eqFactS_eq]
  have := all_loop (xs := x) (L := fun i => l1_laws_eqFactS x x i) (p := fun _ => true) (by omega) (by rw [l1_laws_eqFactS_eq]; simp) (fun i a ha hat hlt hw => by
    rw [l1_laws_eqFactS_eq]
    simp only [hat, hlt, hw, cond_true, Option.bind_some, eq_Fact a (small_mem h ha)]; simp)
  simpa [all_true] using this
theorem eq_Stored (x : ((Int × (List Int)) × ((List (Int × (List Int))) × Int))) (h : SmallT tPPILIPLPILII x) : f_laws_eqStored x x = some true := by
  rw [f_laws_eqStored_eq]
  simp [eq_Access _ h.1, eq_FactS _ h.2.1]
theorem eq_StoredS (x : (List ((Int × (List Int)) × ((List (Int × (List Int))) × Int)))) (h : SmallT tL8780a x) : f_laws_eqStoredS x x = some true := by
  have hl : x.length ≤ 1048576 := small_len h
  rw [f_laws_eqStoredS_eq]
  have := all_loop (xs := x) (L := fun i => l1_laws_eqStoredS x x i) (p := fun _ => true) (by omega) (by rw [l1_laws_eqStoredS_eq]; simp) (fun i a ha hat hlt hw => by
    rw [l1_laws_eqStoredS_eq]
    simp only [hat, hlt, hw, cond_true, Option.bind_some, eq_Stored a (small_mem h ha)]; simp)
  simpa [all_true] using this
theorem eq_Cache (x : ((List ((Int × (List Int)) × ((List (Int × (List Int))) × Int))) × Int)) (h : SmallT tP4d7df x) : f_laws_eqCache x x = some true := by
  rw [f_laws_eqCache_eq]
  simp [eq_StoredS _ h.1]
theorem l2Ints_val (x y : List Int) (h : x.length < 4611686018427387904) : f_spec_l2Ints x y = some (decide (x = y)) := by
  rw [f_spec_l2Ints_eq, bne_len]
  by_cases hl : x.length = y.length
  · have := eq_loop (xs := x) (ys := y) (L := fun i => l1_spec_l2Ints x y i) h hl (by rw [l1_spec_l2Ints_eq]; simp) (fun i a b ha hb hat hbt hlt hw => by
      rw [l1_spec_l2Ints_eq]
      simp only [hat, hbt, hlt, hw, cond_true, Option.bind_some, bne_dec]
      cases decide (a = b) <;> rfl)
    simp [hl, this]
  · rw [ne_of_len hl]; simp [hl]

theorem equal_int_val (x y : List Int) (h : x.length < 4611686018427387904) : f_slices_Equal_int x y = some (decide (x = y)) := by
  rw [f_slices_Equal_int_eq, bne_len]
  by_cases hl : x.length = y.length
  · have := eq_loop (xs := x) (ys := y) (L := fun i => l1_slices_Equal_int x y (x.length : Int) i) h hl (by rw [l1_slices_Equal_int_eq]; simp) (fun i a b ha hb hat hbt hlt hw => by
      rw [l1_slices_Equal_int_eq]
      simp only [hat, hbt, hlt, hw, cond_true, Option.bind_some, bne_dec]
      cases decide (a = b) <;> rfl)
    simp [hl] at this ⊢
    exact this
  · rw [ne_of_len hl]; simp [hl]

theorem l5Same_val (a b : Int × List Int) (h : a.2.length < 4611686018427387904) : f_spec_l5Same a b = some (decide (a = b)) := by
  rw [f_spec_l5Same_eq, l2Ints_val _ _ h, pair_dec, beq_dec]
  cases decide (a.1 = b.1) <;> simp
theorem sameAccess_val (a b : Int × List Int) (h : a.2.length < 4611686018427387904) : f_impl_sameAccess a b = some (decide (a = b)) := by
  rw [f_impl_sameAccess_eq, equal_int_val _ _ h, pair_dec, beq_dec]
  cases decide (a.1 = b.1) <;> simp
theorem spec_findStored_val (c : List ((Int × List Int) × (List (Int × List Int) × Int)) × Int) (a : Int × List Int) (h : c.1.length < 4611686018427387904) (h2 : ∀ s ∈ c.1, s.1.2.length < 4611686018427387904) : f_spec_FindStored c a = some (match c.1.findIdx? (fun s => decide (s.1 = a)) with | some i => (i : Int) | none => -1) := by
  rw [f_spec_FindStored_eq]
  exact index_loop (xs := c.1) (L := fun i => l1_spec_FindStored c.1 c.2 a.1 a.2 i) (p := fun s => decide (s.1 = a)) h (by rw [l1_spec_FindStored_eq]; simp) (fun i s hm hat hlt hw => by
    rw [l1_spec_FindStored_eq]
    simp only [hat, hlt, hw, cond_true, Option.bind_some, l5Same_val _ _ (h2 s hm)])
theorem impl_findStored_val (c : List ((Int × List Int) × (List (Int × List Int) × Int)) × Int) (a : Int × List Int) (h : c.1.length < 4611686018427387904) (h2 : ∀ s ∈ c.1, s.1.2.length < 4611686018427387904) : f_impl_FindStored c a = some (match c.1.findIdx? (fun s => decide (s.1 = a)) with | some i => (i : Int) | none => -1) := by
  rw [f_impl_FindStored_eq, f_slices_IndexFunc_Stored__impl_FindStored_1_eq]
  have := index_loop (xs := c.1) (L := fun i => l1_slices_IndexFunc_Stored__impl_FindStored_1 c.1 a.1 a.2 (c.1.length : Int) i) (p := fun s => decide (s.1 = a)) h (by rw [l1_slices_IndexFunc_Stored__impl_FindStored_1_eq]; simp) (fun i s hm hat hlt hw => by
    rw [l1_slices_IndexFunc_Stored__impl_FindStored_1_eq]
    simp only [hat, hlt, hw, cond_true, Option.bind_some, f_impl_FindStored_1_eq, sameAccess_val _ _ (h2 s hm)])
  rw [this]; rfl

theorem law_FnExactFindStored (x0 : ((List ((Int × (List Int)) × ((List (Int × (List Int))) × Int))) × Int)) (x1 : (Int × (List Int))) (hb : 0 + bulkT tP4d7df x0 + bulkT tPILI x1 ≤ 1048576) : f_laws_FnExactFindStored x0 x1 = some true := by
  have s0 : SmallT tP4d7df x0 := small_of tP4d7df x0 (by omega)
  have s1 : SmallT tPILI x1 := small_of tPILI x1 (by omega)
  have h1 : x0.1.length < 4611686018427387904 := by have : x0.1.length ≤ 1048576 := small_len s0.1; omega
  have h2 : ∀ s ∈ x0.1, s.1.2.length < 4611686018427387904 := fun s hs => by have : s.1.2.length ≤ 1048576 := small_len (small_mem s0.1 hs).1.2; omega
  rw [f_laws_FnExactFindStored_eq]
  obtain ⟨r0, a0, b0, c0⟩ := sz_Cache x0 s0 1048576 (by omega) (by omega)
  rw [a0, Option.bind_some]
  by_cases n0 : r0 < 0
  · simp [n0]
  simp only [n0, decide_false, cond_false]
  obtain ⟨r1, a1, b1, c1⟩ := sz_Access x1 s1 r0 (by omega) (by omega)
  rw [a1, Option.bind_some]
  by_cases n1 : r1 < 0
  · simp [n1]
  simp only [n1, decide_false, cond_false]
  simp only [to_Cache x0 s0, to_Access x1 s1, eq_Cache x0 s0, eq_Access x1 s1, spec_findStored_val x0 x1 h1 h2, impl_findStored_val x0 x1 h1 h2, Option.bind_some]
  all_goals simp

namespace fnExactFindStored
open Go.ChangeShapes Go.WideShapes Go.ChangeAt Go.RowKit
theorem own : ownKnob Try.prog.godebug = none := by kernel_rfl
theorem bulk (H : Type) : Go.Lf.Bulk H Rows.uptoBulk Rows.uptoBulkAll where
  str s := by simp [Rows.uptoBulk]
  sl e s := by simp [Rows.uptoBulk]
  ag p := by simp [Rows.uptoBulk]
  nil := by simp [Rows.uptoBulkAll]
  cons d r := by simp [Rows.uptoBulkAll]
  one d := by cases d <;> first | (simp [Rows.uptoBulk]) | (rename_i l; cases l <;> simp [Rows.uptoBulk])
theorem hspec (H : Type) : ∀ ds : List (DataW H), ds.length = 2 → Rows.fnExactFindStoredSpec.fn H ds = { results := [.lit (.bool true)], args := ds }
  | [_, _], _ => rfl
  | [], h => by simp at h
  | [_], h => by simp at h
  | _ :: _ :: _ :: _, h => by simp at h
set_option maxRecDepth 100000 in
theorem contract (H : Type) (enc : TypeId × Value → H) (W : World) (base : Nat) (args : Array Value) (ds gs : List (DataW H)) (before : List MemPlace)
    (hval : ∀ (j : Nat) t v, Try.f3.params[j]? = some t → args[j]? = some v → Value.okWide Try.prog W .any base t v)
    (hW : DataW.Whole enc Try.prog Try.f3.params.toList Rows.fnExactFindStoredSpec.vars false W args.toList ds gs before) (hk : Rows.uptoSmall H (ds ++ gs) = true) :
    Calls Try.prog 3 args W fun e W' => ∃ v, e = .returned v ∧ Rows.fnExactFindStoredSpec.post enc Try.prog Try.f3 false true false false W args v W' :=
  Go.Lf.law_contract (P := Try.prog) (fn := Try.f3) (c := n_laws_FnExactFindStored) g_laws_FnExactFindStored (tids := [24, 27]) (τs := [tP4d7df, tPILI]) (by kernel_rfl) (by kernel_rfl) (by kernel_rfl) (by kernel_rfl)
    (by decide) (by kernel_rfl) (of_decide_eq_true (by kernel_rfl)) (tb := 4) (by kernel_rfl) (by kernel_rfl)
    (s := Rows.fnExactFindStoredSpec) rfl (hspec H) (bulk H) (N := 1048576) (fun l hl hw hb => Go.Lf.law_of_all (N := 1048576) (τs := [tP4d7df, tPILI]) (f := f_laws_FnExactFindStored) (b := 0) (fun x0 w0 x1 w1 hb => law_FnExactFindStored x0 x1 hb) l hl hw (by omega)) W base args ds gs before hval hW (of_decide_eq_true hk)
set_option maxRecDepth 100000 in
theorem lifted (os : Os) (started : os.Started) (H : Type) (enc : TypeId × Value → H) (F : Stop.Interp) :
    ReturnsInHanded {} Try.checked os 3 .any ((Rows.OpenSpec.upto Rows.fnExactFindStoredSpec).pre6 enc Try.prog Try.f3 Rows.fnExactFindStoredUptoRow.domain false) (((Rows.OpenSpec.upto Rows.fnExactFindStoredSpec).at F).post enc Try.prog Try.f3 false true false false) := by
  refine returnsInHanded_of_cond (C := Try.checked) (s := Rows.OpenSpec.upto Rows.fnExactFindStoredSpec) (k := Rows.uptoSmall) rfl own started (by kernel_rfl) Try.func3
    (OpenSpec.witness (enc := enc) (C := Try.checked) (s := Rows.OpenSpec.upto Rows.fnExactFindStoredSpec) (k := Rows.uptoSmall) rfl false ⟨#[], #[.agg #[.slice none 0 0, .int .i64 0], .agg #[.int .i64 0, .slice none 0 0]], []⟩ 8 (by kernel_rfl) (by kernel_rfl) (by kernel_rfl)
      (x := ([.agg [.nil, .lit (.int .i64 0)], .agg [.lit (.int .i64 0), .nil]], [], [])) (by kernel_rfl) rfl (by kernel_rfl)) ?_
  intro W base args ds gs before hval hW _ hk _
  exact contract H enc W base args ds gs before hval hW hk
theorem over : Rows.fnExactFindStoredUptoRow.holds Try.pinned (Rows.OpenSpec.upto Rows.fnExactFindStoredSpec) :=
  OpenClaim.holds_of_cond 3 Try.f3 rfl rfl rfl rfl rfl rfl rfl ⟨rfl, rfl, rfl, rfl, rfl⟩ rfl rfl rfl rfl rfl (by kernel_rfl) Try.func3 (by kernel_rfl)
    (of_decide_eq_true (by kernel_rfl)) (by unfold Func.isWrapper; first | (rw [if_pos (by decide +kernel)]; kernel_rfl) | (rw [if_neg (by decide +kernel)]; exact ⟨rfl, rfl⟩))
    (fun os started H enc _ F => lifted os started H enc F)
theorem proved : Rows.FnExactFindStoredUptoSaid :=
  over
end fnExactFindStored
end Go.Proofs.Ytjffopklnampaaa
