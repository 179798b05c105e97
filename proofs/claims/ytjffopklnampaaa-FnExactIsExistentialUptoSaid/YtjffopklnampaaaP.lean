/- FnExactIsExistential answers true at every input of bulk at most 1048576: both functions compute the same. Conditions: none beyond the statement. -/
import Derived.Test.YtjffopklnampaaaRows
import Derived.Test.YtjffopklnampaaaFa
import Derived.WalkKit
import Derived.ProofKit
import Derived.OpenShut
import Derived.JoinedCond
set_option linter.unusedVariables false
set_option linter.unusedSimpArgs false
namespace Go.Proofs.Ytjffopklnampaaa
open Go.Lf
theorem sz_IntS (x : (List Int)) (h : SmallT tLI x) (n : Int) (h0 : 0 ≤ n) (h1 : n ≤ 1048576) : ∃ r, f_laws_szIntS x n = some r ∧ -1 ≤ r ∧ r ≤ n := by
  have hl : x.length ≤ 1048576 := small_len h
  rw [f_laws_szIntS_eq, wr (by omega) (by omega)]
  by_cases hn : n - (x.length : Int) < 0
  · exact ⟨-1, by simp [hn], by omega, by omega⟩
  · exact ⟨n - (x.length : Int), by simp [hn], by omega, by omega⟩
theorem sz_Method (x : (Int × ((List Int) × (Int × (Int × Int))))) (h : SmallT tPIPLIPIPII x) (n : Int) (h0 : 0 ≤ n) (h1 : n ≤ 1048576) : ∃ r, f_laws_szMethod x n = some r ∧ -1 ≤ r ∧ r ≤ n := by
  rw [f_laws_szMethod_eq]
  obtain ⟨r0, a0, b0, c0⟩ := sz_IntS x.2.1 h.2.1 n (by omega) (by omega)
  simp only [a0, Option.bind_some]
  by_cases n0 : r0 < 0
  · exact ⟨-1, by simp [n0], by omega, by omega⟩
  simp only [n0, decide_false, cond_false]
  exact ⟨r0, rfl, by omega, by omega⟩
theorem sz_MethodS (x : (List (Int × ((List Int) × (Int × (Int × Int)))))) (h : SmallT tLPIPLIPIPII x) (n : Int) (h0 : 0 ≤ n) (h1 : n ≤ 1048576) : ∃ r, f_laws_szMethodS x n = some r ∧ -1 ≤ r ∧ r ≤ n := by
  have hl : x.length ≤ 1048576 := small_len h
  rw [f_laws_szMethodS_eq, wr (by omega) (by omega)]
  by_cases hn : n - (x.length : Int) < 0
  · exact ⟨-1, by simp [hn], by omega, by omega⟩
  · simp only [hn, decide_false, cond_false]
    obtain ⟨r, e1, e2, e3⟩ := sz_loop (xs := x) (L := fun i s => l1_laws_szMethodS x s i) (by omega) (fun s => by rw [l1_laws_szMethodS_eq]; simp) (fun i a s ha hat hlt hw h0 h1 => by
      obtain ⟨r, e1, e2, e3⟩ := sz_Method a (small_mem h ha) s h0 h1
      refine ⟨r, e2, e3, ?_⟩
      rw [l1_laws_szMethodS_eq]
      simp only [hat, hlt, hw, e1, cond_true, Option.bind_some]) (n - (x.length : Int)) (by omega) (by omega)
    exact ⟨r, e1, e2, by omega⟩
theorem sz_Atom (x : (Int × (List Int))) (h : SmallT tPILI x) (n : Int) (h0 : 0 ≤ n) (h1 : n ≤ 1048576) : ∃ r, f_laws_szAtom x n = some r ∧ -1 ≤ r ∧ r ≤ n := by
  rw [f_laws_szAtom_eq]
  obtain ⟨r0, a0, b0, c0⟩ := sz_IntS x.2 h.2 n (by omega) (by omega)
  simp only [a0, Option.bind_some]
  by_cases n0 : r0 < 0
  · exact ⟨-1, by simp [n0], by omega, by omega⟩
  simp only [n0, decide_false, cond_false]
  exact ⟨r0, rfl, by omega, by omega⟩
theorem sz_AtomS (x : (List (Int × (List Int)))) (h : SmallT tLPILI x) (n : Int) (h0 : 0 ≤ n) (h1 : n ≤ 1048576) : ∃ r, f_laws_szAtomS x n = some r ∧ -1 ≤ r ∧ r ≤ n := by
  have hl : x.length ≤ 1048576 := small_len h
  rw [f_laws_szAtomS_eq, wr (by omega) (by omega)]
  by_cases hn : n - (x.length : Int) < 0
  · exact ⟨-1, by simp [hn], by omega, by omega⟩
  · simp only [hn, decide_false, cond_false]
    obtain ⟨r, e1, e2, e3⟩ := sz_loop (xs := x) (L := fun i s => l1_laws_szAtomS x s i) (by omega) (fun s => by rw [l1_laws_szAtomS_eq]; simp) (fun i a s ha hat hlt hw h0 h1 => by
      obtain ⟨r, e1, e2, e3⟩ := sz_Atom a (small_mem h ha) s h0 h1
      refine ⟨r, e2, e3, ?_⟩
      rw [l1_laws_szAtomS_eq]
      simp only [hat, hlt, hw, e1, cond_true, Option.bind_some]) (n - (x.length : Int)) (by omega) (by omega)
    exact ⟨r, e1, e2, by omega⟩
theorem sz_Query (x : ((List Int) × (List (Int × (List Int))))) (h : SmallT tPLILPILI x) (n : Int) (h0 : 0 ≤ n) (h1 : n ≤ 1048576) : ∃ r, f_laws_szQuery x n = some r ∧ -1 ≤ r ∧ r ≤ n := by
  rw [f_laws_szQuery_eq]
  obtain ⟨r0, a0, b0, c0⟩ := sz_IntS x.1 h.1 n (by omega) (by omega)
  simp only [a0, Option.bind_some]
  by_cases n0 : r0 < 0
  · exact ⟨-1, by simp [n0], by omega, by omega⟩
  simp only [n0, decide_false, cond_false]
  obtain ⟨r1, a1, b1, c1⟩ := sz_AtomS x.2 h.2 r0 (by omega) (by omega)
  simp only [a1, Option.bind_some]
  by_cases n1 : r1 < 0
  · exact ⟨-1, by simp [n1], by omega, by omega⟩
  simp only [n1, decide_false, cond_false]
  exact ⟨r1, rfl, by omega, by omega⟩
theorem to_IntS (x : (List Int)) (h : SmallT tLI x) : f_laws_toIntS x = some x := by
  have hl : x.length ≤ 1048576 := small_len h
  rw [f_laws_toIntS_eq, mkOk_of (by omega)]
  have := scan_copy (xs := x) (g := id) (z := (0 : Int)) (L := fun i s => l1_laws_toIntS x s i) (by omega) (fun s => by rw [l1_laws_toIntS_eq]; simp) (fun i a s hat hlt hw hs hb => by
    obtain ⟨b, hb⟩ := hb
    rw [l1_laws_toIntS_eq]
    simp only [hat, hlt, hw, hb, cond_true, Option.bind_some, Int.toNat_natCast, id])
  simpa using this
theorem to_Method (x : (Int × ((List Int) × (Int × (Int × Int))))) (h : SmallT tPIPLIPIPII x) : f_laws_toMethod x = some x := by
  rw [f_laws_toMethod_eq, to_IntS x.2.1 h.2.1]; rfl
theorem to_MethodS (x : (List (Int × ((List Int) × (Int × (Int × Int)))))) (h : SmallT tLPIPLIPIPII x) : f_laws_toMethodS x = some x := by
  have hl : x.length ≤ 1048576 := small_len h
  rw [f_laws_toMethodS_eq, mkOk_of (by omega)]
  have := scan_copy (xs := x) (g := id) (z := ((0 : Int), (([] : List Int), ((0 : Int), ((0 : Int), (0 : Int)))))) (L := fun i s => l1_laws_toMethodS x s i) (by omega) (fun s => by rw [l1_laws_toMethodS_eq]; simp) (fun i a s hat hlt hw hs hb => by
    obtain ⟨b, hb⟩ := hb
    rw [l1_laws_toMethodS_eq]
    simp only [hat, hlt, hw, hb, cond_true, Option.bind_some, Int.toNat_natCast, id, to_Method a (small_mem h (at_mem hat))])
  simpa using this
theorem to_Atom (x : (Int × (List Int))) (h : SmallT tPILI x) : f_laws_toAtom x = some x := by
  rw [f_laws_toAtom_eq, to_IntS x.2 h.2]; rfl
theorem to_AtomS (x : (List (Int × (List Int)))) (h : SmallT tLPILI x) : f_laws_toAtomS x = some x := by
  have hl : x.length ≤ 1048576 := small_len h
  rw [f_laws_toAtomS_eq, mkOk_of (by omega)]
  have := scan_copy (xs := x) (g := id) (z := ((0 : Int), ([] : List Int))) (L := fun i s => l1_laws_toAtomS x s i) (by omega) (fun s => by rw [l1_laws_toAtomS_eq]; simp) (fun i a s hat hlt hw hs hb => by
    obtain ⟨b, hb⟩ := hb
    rw [l1_laws_toAtomS_eq]
    simp only [hat, hlt, hw, hb, cond_true, Option.bind_some, Int.toNat_natCast, id, to_Atom a (small_mem h (at_mem hat))])
  simpa using this
theorem to_Query (x : ((List Int) × (List (Int × (List Int))))) (h : SmallT tPLILPILI x) : f_laws_toQuery x = some x := by
  rw [f_laws_toQuery_eq, to_IntS x.1 h.1, to_AtomS x.2 h.2]; rfl
theorem to_Step (x : (Int × Int)) (h : SmallT tPII x) : f_laws_toStep x = some x := by
  rw [f_laws_toStep_eq]
theorem eq_IntS (x : (List Int)) (h : SmallT tLI x) : f_laws_eqIntS x x = some true := by
  have hl : x.length ≤ 1048576 := small_len h
  rw [f_laws_eqIntS_eq]
  have := all_loop (xs := x) (L := fun i => l1_laws_eqIntS x x i) (p := fun _ => true) (by omega) (by rw [l1_laws_eqIntS_eq]; simp) (fun i a ha hat hlt hw => by
    rw [l1_laws_eqIntS_eq]
    simp only [hat, hlt, hw, cond_true, Option.bind_some]; simp)
  simpa [all_true] using this
theorem eq_Method (x : (Int × ((List Int) × (Int × (Int × Int))))) (h : SmallT tPIPLIPIPII x) : f_laws_eqMethod x x = some true := by
  rw [f_laws_eqMethod_eq]
  simp [eq_IntS _ h.2.1]
theorem eq_MethodS (x : (List (Int × ((List Int) × (Int × (Int × Int)))))) (h : SmallT tLPIPLIPIPII x) : f_laws_eqMethodS x x = some true := by
  have hl : x.length ≤ 1048576 := small_len h
  rw [f_laws_eqMethodS_eq]
  have := all_loop (xs := x) (L := fun i => l1_laws_eqMethodS x x i) (p := fun _ => true) (by omega) (by rw [l1_laws_eqMethodS_eq]; simp) (fun i a ha hat hlt hw => by
    rw [l1_laws_eqMethodS_eq]
    simp only [hat, hlt, hw, cond_true, Option.bind_some, eq_Method a (small_mem h ha)]; simp)
  simpa [all_true] using this
theorem eq_Atom (x : (Int × (List Int))) (h : SmallT tPILI x) : f_laws_eqAtom x x = some true := by
  rw [f_laws_eqAtom_eq]
  simp [eq_IntS _ h.2]
theorem eq_AtomS (x : (List (Int × (List Int)))) (h : SmallT tLPILI x) : f_laws_eqAtomS x x = some true := by
  have hl : x.length ≤ 1048576 := small_len h
  rw [f_laws_eqAtomS_eq]
  have := all_loop (xs := x) (L := fun i => l1_laws_eqAtomS x x i) (p := fun _ => true) (by omega) (by rw [l1_laws_eqAtomS_eq]; simp) (fun i a ha hat hlt hw => by
    rw [l1_laws_eqAtomS_eq]
    simp only [hat, hlt, hw, cond_true, Option.bind_some, eq_Atom a (small_mem h ha)]; simp)
  simpa [all_true] using this
theorem eq_Query (x : ((List Int) × (List (Int × (List Int))))) (h : SmallT tPLILPILI x) : f_laws_eqQuery x x = some true := by
  rw [f_laws_eqQuery_eq]
  simp [eq_IntS _ h.1, eq_AtomS _ h.2]
theorem within_eq : f_spec_l1In = f_impl_within := by
  funext a b c
  rw [f_spec_l1In_eq, f_impl_within_eq]
theorem within_val (a b c : Int) : f_impl_within a b c = some (decide (b ≤ a) && decide (a ≤ c)) := by
  rw [f_impl_within_eq]
  by_cases h : a ≥ b
  · have h' : b ≤ a := h
    simp [h']
  · have h' : ¬ b ≤ a := h
    simp [h']
def isVarV (x : Int) : Bool := decide (10 ≤ x) && decide (x ≤ 17)
theorem spec_isVar_val (x : Int) : f_spec_IsVar x = some (isVarV x) := by
  rw [f_spec_IsVar_eq, within_eq, within_val]; rfl
theorem impl_isVar_val (x : Int) : f_impl_IsVar x = some (isVarV x) := by
  rw [f_impl_IsVar_eq, within_val]; rfl
/-- A place of a list. -/
def inLen (p : Int) (n : Nat) : Bool := decide (0 ≤ p) && decide (p < (n : Int))
theorem within_len (p : Int) (n : Nat) (h : n < 4611686018427387904) : f_impl_within p 0 (IntKind.wrap .i64 ((n : Int) - 1)) = some (inLen p n) := by
  rw [wr (by omega) (by omega), within_val]
  unfold inLen
  congr 2
  rw [Bool.eq_iff_iff]; simp only [decide_eq_true_eq]; omega
theorem at_inLen {α : Type} {l : List α} {p : Int} (h : inLen p l.length = true) : ∃ a, at? l p = some a ∧ a ∈ l := by
  unfold inLen at h
  rw [Bool.and_eq_true, decide_eq_true_eq, decide_eq_true_eq] at h
  refine ⟨l[p.toNat]'(by omega), ?_, List.getElem_mem _⟩
  unfold at?
  rw [if_pos h.1, List.getElem?_eq_getElem]
theorem at_out {α : Type} {l : List α} {p : Int} (h : inLen p l.length = false) : at? l p = none := by
  unfold inLen at h
  rw [Bool.and_eq_false_iff, decide_eq_false_iff_not, decide_eq_false_iff_not] at h
  unfold at?
  split
  · exact List.getElem?_eq_none (by omega)
  · rfl

theorem index_int_val (x : List Int) (a : Int) (h : x.length < 4611686018427387904) : f_slices_Index_int x a = some (match x.findIdx? (fun b => a == b) with | some i => (i : Int) | none => -1) := by
  rw [f_slices_Index_int_eq]
  exact index_loop (xs := x) (L := fun i => l1_slices_Index_int x a (x.length : Int) i) (p := fun b => a == b) h (by rw [l1_slices_Index_int_eq]; simp) (fun i b hm hat hlt hw => by
    rw [l1_slices_Index_int_eq]
    simp only [hat, hlt, hw, cond_true, Option.bind_some])
theorem contains_int_val (x : List Int) (a : Int) (h : x.length < 4611686018427387904) : f_slices_Contains_int x a = some (decide (a ∈ x)) := by
  rw [f_slices_Contains_int_eq, index_int_val x a h]
  simp only [Option.bind_some]
  cases hf : x.findIdx? (fun b => a == b) with
  | none =>
    rw [List.findIdx?_eq_none_iff] at hf
    have : a ∉ x := fun hm => by have := hf a hm; simp at this
    simp [this]
  | some i =>
    rw [List.findIdx?_eq_some_iff_getElem] at hf
    obtain ⟨hi, he, _⟩ := hf
    have he' : a = x[i] := by simpa using he
    have : a ∈ x := by rw [he']; exact List.getElem_mem hi
    simp [this]

def inSpan (a w s : Int) : Bool := (decide (a ≥ s) && decide (IntKind.wrap .i64 (a - s) < w)) && decide (s ≥ 0)
theorem bit_val (b : Bool) : f_impl_bit b = some (bif b then 1 else 0) := by
  rw [f_impl_bit_eq]; cases b <;> rfl
def occurs (x : Int) (l : List (Int × List Int)) : Nat := (l.map fun a => a.2.countP fun b => decide (b = x)).sum
theorem occurs_le (x : Int) (l : List (Int × List Int)) : occurs x l ≤ (l.map fun a => a.2.length).sum :=
  sum_mono fun a _ => List.countP_le_length
theorem spec_isOnce_val (q : List Int × List (Int × List Int)) (x : Int) (h1 : q.1.length ≤ 1048576) (h2 : q.2.length ≤ 1048576) (h3 : (q.2.map fun a => a.2.length).sum ≤ 1048576) : f_spec_IsOnce q x = some (isVarV x && decide (2 * q.1.countP (fun b => decide (b = x)) + occurs x q.2 = 1)) := by
  have hc : q.1.countP (fun b => decide (b = x)) ≤ q.1.length := List.countP_le_length
  have ho := occurs_le x q.2
  rw [f_spec_IsOnce_eq]
  have A := sum_loop (xs := q.1) (L := fun i n => l1_spec_IsOnce x q.1 q.2 n i) (g := fun a => bif decide (a = x) then 2 else 0) (f := fun n => l3_spec_IsOnce x q.1 q.2 n 0) (by omega) (fun n => by rw [l1_spec_IsOnce_eq]; simp) (fun i a n ha hat hlt hw h0 h1 => by
    rw [l1_spec_IsOnce_eq, l2_spec_IsOnce_eq, l2_spec_IsOnce_eq]
    simp only [hat, hlt, hw, cond_true, Option.bind_some, beq_dec]
    cases hd : decide (a = x) with
    | true => simp only [hd, cond_true] at h1 ⊢; rw [wr (by omega) (by omega)]; rfl
    | false => simp) 0 (by omega)
  have e2 : (q.1.map fun a => bif decide (a = x) then 2 else 0).sum = 2 * q.1.countP (fun b => decide (b = x)) := by
    generalize q.1 = l
    induction l with
    | nil => rfl
    | cons a l ih =>
      rw [List.map_cons, List.sum_cons, ih, List.countP_cons]
      cases decide (a = x) <;> simp <;> omega
  rw [e2] at A
  rw [A (by omega)]
  have B : ∀ (i : Nat) (a : Int × List Int) (n : Int), at? q.2 (i : Int) = some a → IntKind.wrap .i64 ((i : Int) + 1) = ((i : Int) + 1) → a.2.length ≤ 1048576 → 0 ≤ n → n + (a.2.countP fun b => decide (b = x)) < 4611686018427387904 →
      l4_spec_IsOnce x q.1 q.2 n i 0 = l3_spec_IsOnce x q.1 q.2 (n + (a.2.countP fun b => decide (b = x))) (i + 1) := by
    intro i a n hat hw hl h0 h1
    have := sum_loop (xs := a.2) (L := fun j n => l4_spec_IsOnce x q.1 q.2 n i j) (g := fun b => bif decide (b = x) then 1 else 0) (f := fun n => l3_spec_IsOnce x q.1 q.2 n (i + 1)) (by omega) (fun n => by rw [l4_spec_IsOnce_eq]; simp [hat, hw]) (fun j b n hb hbt hlt hwj h0 h1 => by
      rw [l4_spec_IsOnce_eq, l5_spec_IsOnce_eq, l5_spec_IsOnce_eq]
      simp only [hat, hbt, hlt, hwj, cond_true, Option.bind_some, beq_dec]
      cases hd : decide (b = x) with
      | true => simp only [hd, cond_true] at h1 ⊢; rw [wr (by omega) (by omega)]; rfl
      | false => simp) n h0
    rw [sum_count] at this
    exact this h1
  have C := sum_loop (xs := q.2) (L := fun i n => l3_spec_IsOnce x q.1 q.2 n i) (g := fun a => a.2.countP fun b => decide (b = x)) (f := fun n => some (isVarV x && (n == 1))) (by omega) (fun n => by
      rw [l3_spec_IsOnce_eq, spec_isVar_val]; simp; cases isVarV x <;> simp) (fun i a n ha hat hlt hw h0 h1 => by
    have hla : a.2.length ≤ 1048576 := by
      have := le_sum (fun a : Int × List Int => a.2.length) q.2 a ha
      omega
    rw [l3_spec_IsOnce_eq]
    simp only [hlt, cond_true]
    rw [B i a n hat hw hla h0 h1])
  rw [C _ (by omega) (by unfold occurs at ho; omega)]
  congr 2
  rw [Bool.eq_iff_iff]
  simp only [beq_iff_eq, decide_eq_true_eq]
  unfold occurs
  omega
theorem impl_isOnce_val (q : List Int × List (Int × List Int)) (x : Int) (h1 : q.1.length ≤ 1048576) (h2 : q.2.length ≤ 1048576) (h3 : (q.2.map fun a => a.2.length).sum ≤ 1048576) : f_impl_IsOnce q x = some ((isVarV x && decide (occurs x q.2 = 1)) && !decide (x ∈ q.1)) := by
  have ho := occurs_le x q.2
  rw [f_impl_IsOnce_eq]
  have B : ∀ (i : Nat) (a : Int × List Int) (n : Int), IntKind.wrap .i64 ((i : Int) + 1) = ((i : Int) + 1) → a.2.length ≤ 1048576 → 0 ≤ n → n + (a.2.countP fun b => decide (b = x)) < 4611686018427387904 →
      l2_impl_IsOnce x q.1 q.2 n q.2 (q.2.length : Int) i a.2 (a.2.length : Int) 0 = l1_impl_IsOnce x q.1 q.2 (n + (a.2.countP fun b => decide (b = x))) q.2 (q.2.length : Int) (i + 1) := by
    intro i a n hw hl h0 h1
    have := sum_loop (xs := a.2) (L := fun j n => l2_impl_IsOnce x q.1 q.2 n q.2 (q.2.length : Int) i a.2 (a.2.length : Int) j) (g := fun b => bif decide (b = x) then 1 else 0) (f := fun n => l1_impl_IsOnce x q.1 q.2 n q.2 (q.2.length : Int) (i + 1)) (by omega) (fun n => by rw [l2_impl_IsOnce_eq]; simp [hw]) (fun j b n hb hbt hlt hwj h0 h1 => by
      rw [l2_impl_IsOnce_eq]
      simp only [hbt, hlt, hwj, cond_true, Option.bind_some, beq_dec, bit_val]
      cases hd : decide (b = x) with
      | true => simp only [hd, cond_true] at h1 ⊢; rw [wr (by omega) (by omega)]; rfl
      | false => simp only [hd, cond_false] at h1 ⊢; rw [wr (by omega) (by omega)]; rfl) n h0
    rw [sum_count] at this
    exact this h1
  have C := sum_loop (xs := q.2) (L := fun i n => l1_impl_IsOnce x q.1 q.2 n q.2 (q.2.length : Int) i) (g := fun a => a.2.countP fun b => decide (b = x)) (f := fun n => some ((isVarV x && (n == 1)) && !decide (x ∈ q.1))) (by omega) (fun n => by
      rw [l1_impl_IsOnce_eq, impl_isVar_val, contains_int_val _ _ (by omega)]; simp; cases isVarV x <;> cases decide (n = 1) <;> simp [beq_dec] <;> (by_cases hn : n = 1 <;> simp [hn])) (fun i a n ha hat hlt hw h0 h1 => by
    have hla : a.2.length ≤ 1048576 := by
      have := le_sum (fun a : Int × List Int => a.2.length) q.2 a ha
      omega
    rw [l1_impl_IsOnce_eq]
    simp only [hlt, hat, cond_true, Option.bind_some]
    rw [B i a n hw hla h0 h1]) 0 (by omega) (by unfold occurs at ho; omega)
  rw [C]
  congr 3
  rw [Bool.eq_iff_iff]
  simp only [beq_iff_eq, decide_eq_true_eq]
  unfold occurs
  omega
theorem isOnce_same (q : List Int × List (Int × List Int)) (x : Int) (h1 : q.1.length ≤ 1048576) (h2 : q.2.length ≤ 1048576) (h3 : (q.2.map fun a => a.2.length).sum ≤ 1048576) : f_spec_IsOnce q x = f_impl_IsOnce q x := by
  rw [spec_isOnce_val q x h1 h2 h3, impl_isOnce_val q x h1 h2 h3]
  congr 1
  rw [Bool.eq_iff_iff]
  simp only [Bool.and_eq_true, decide_eq_true_eq, Bool.not_eq_true', decide_eq_false_iff_not]
  have : x ∈ q.1 ↔ 0 < q.1.countP (fun b => decide (b = x)) := by
    rw [List.countP_pos_iff]
    constructor
    · intro h; exact ⟨x, h, by simp⟩
    · rintro ⟨a, ha, e⟩; have : a = x := by simpa using e
      rw [← this]; exact ha
  rw [this]
  constructor
  · rintro ⟨h, e⟩; exact ⟨⟨h, by omega⟩, by omega⟩
  · rintro ⟨⟨h, e⟩, n⟩; exact ⟨h, by omega⟩

/-- One input of an access. -/
def inputOk (ts x : List Int) (k : Nat) (p : Int) : Bool := inLen p ts.length && (isVarV ((at? ts p).getD 0) || decide ((at? ts p).getD 0 = (x[k]?).getD 0))
def isForV (m : Int × (List Int × (Int × (Int × Int)))) (a : Int × List Int) (x : List Int) : Bool := decide (a.1 = m.1) && allIx (inputOk a.2 x) m.2.1
def atomsForV (ms : List (Int × (List Int × (Int × (Int × Int))))) (q : List Int × List (Int × List Int)) (x : Int × List Int) : List Int :=
  match at? ms x.1 with
  | some m => if x.2.length = m.2.1.length then mapIx (fun i a => if isForV m a x.2 = true then some (i : Int) else none) q.2 else []
  | none => []
theorem atomsForV_len (ms : List (Int × (List Int × (Int × (Int × Int))))) (q : List Int × List (Int × List Int)) (x : Int × List Int) : (atomsForV ms q x).length ≤ q.2.length := by
  unfold atomsForV
  split
  · split
    · exact mapIx_len _ _
    · simp
  · simp
theorem l2Has_val (x : List Int) (a : Int) (h : x.length < 4611686018427387904) : f_spec_l2Has x a = some (decide (a ∈ x)) := by
  rw [f_spec_l2Has_eq]
  refine (any_loop (xs := x) (L := fun i => l1_spec_l2Has x a i) (p := fun b => b == a) h (by rw [l1_spec_l2Has_eq]; simp) (fun i b hm hat hlt hw => by
    rw [l1_spec_l2Has_eq]
    simp only [hat, hlt, hw, cond_true, Option.bind_some])).trans ?_
  congr 1
  rw [Bool.eq_iff_iff]
  simp

def exOk (io : Int → Bool) (m : Int × (List Int × (Int × (Int × Int)))) (k : Nat) (t : Int) : Bool := decide ((k : Int) ∈ m.2.1) || io t
def isOnceV (q : List Int × List (Int × List Int)) (x : Int) : Bool := (isVarV x && decide (occurs x q.2 = 1)) && !decide (x ∈ q.1)
def isExV (m : Int × (List Int × (Int × (Int × Int)))) (q : List Int × List (Int × List Int)) (a : Int × List Int) : Bool := decide (m.1 = a.1) && allIx (exOk (isOnceV q) m) a.2
def isExistentialV (ms : List (Int × (List Int × (Int × (Int × Int))))) (q : List Int × List (Int × List Int)) (s : Int × Int) : Bool :=
  match at? q.2 s.1, at? ms s.2 with
  | some a, some m => isExV m q a
  | _, _ => false
theorem impl_isEx_val (m : Int × (List Int × (Int × (Int × Int)))) (q : List Int × List (Int × List Int)) (a : Int × List Int) (h : m.2.1.length < 4611686018427387904) (h0 : a.2.length < 4611686018427387904) (h1 : q.1.length ≤ 1048576) (h2 : q.2.length ≤ 1048576) (h3 : (q.2.map fun a => a.2.length).sum ≤ 1048576) : f_impl_isExistential m q a = some (isExV m q a) := by
  rw [f_impl_isExistential_eq]
  have := allIx_loop (xs := a.2) (L := fun i => l1_impl_isExistential m.1 m.2.1 m.2.2.1 m.2.2.2.1 m.2.2.2.2 q.1 q.2 a.1 a.2 a.2 (a.2.length : Int) i) (p := exOk (isOnceV q) m) (d := decide (m.1 = a.1)) h0 (by
      rw [l1_impl_isExistential_eq]; simp only [Int.lt_irrefl, decide_false, cond_false, beq_dec]) (fun i t hm hat hlt hw => by
    rw [l1_impl_isExistential_eq]
    simp only [hat, hlt, hw, cond_true, Option.bind_some, contains_int_val _ _ h]
    rw [show ((q.1, q.2) : List Int × List (Int × List Int)) = q from rfl, impl_isOnce_val q t h1 h2 h3]
    unfold exOk isOnceV
    cases decide ((i : Int) ∈ m.2.1)
    · simp only [Bool.not_false, cond_true, Option.bind_some, Bool.false_or]
      cases ((isVarV t && decide (occurs t q.2 = 1)) && !decide (t ∈ q.1)) <;> rfl
    · rfl)
  rw [this]
  unfold isExV
  rw [Bool.and_comm]
theorem isExistential_same (ms : List (Int × (List Int × (Int × (Int × Int))))) (q : List Int × List (Int × List Int)) (s : Int × Int) (h : ms.length < 4611686018427387904) (hm : ∀ m ∈ ms, m.2.1.length < 4611686018427387904) (ha : ∀ a ∈ q.2, a.2.length < 4611686018427387904) (h1 : q.1.length ≤ 1048576) (h2 : q.2.length ≤ 1048576) (h3 : (q.2.map fun a => a.2.length).sum ≤ 1048576) :
    f_spec_IsExistential ms q s = some (isExistentialV ms q s) ∧ f_impl_IsExistential ms q s = some (isExistentialV ms q s) := by
  rw [f_spec_IsExistential_eq, f_impl_IsExistential_eq, within_eq, within_len _ _ h, within_len _ _ (show q.2.length < 4611686018427387904 by omega)]
  unfold isExistentialV
  cases hin : inLen s.1 q.2.length with
  | false => rw [at_out hin]; simp
  | true =>
    obtain ⟨a, ha1, ha2⟩ := at_inLen hin
    cases hin2 : inLen s.2 ms.length with
    | false => rw [at_out hin2]; simp [ha1]
    | true =>
      obtain ⟨m, hm1, hm2⟩ := at_inLen hin2
      simp only [ha1, hm1, Bool.not_true, cond_false, cond_true, Option.bind_some, impl_isEx_val m q a (hm m hm2) (ha a ha2) h1 h2 h3, and_true, bne_dec]
      have := allIx_loop (xs := a.2) (L := fun i => l1_spec_IsExistential ms q.1 q.2 s.1 s.2 i) (p := exOk (isOnceV q) m) (d := true) (ha a ha2) (by
          rw [l1_spec_IsExistential_eq]; simp [ha1]) (fun i t htm hat hlt hw => by
        rw [l1_spec_IsExistential_eq]
        simp only [ha1, hm1, hat, hlt, hw, cond_true, Option.bind_some, l2Has_val _ _ (hm m hm2)]
        rw [show ((q.1, q.2) : List Int × List (Int × List Int)) = q from rfl, isOnce_same q t h1 h2 h3, impl_isOnce_val q t h1 h2 h3]
        unfold exOk isOnceV
        cases decide ((i : Int) ∈ m.2.1)
        · simp only [Bool.not_false, cond_true, Option.bind_some, Bool.false_or]
          cases ((isVarV t && decide (occurs t q.2 = 1)) && !decide (t ∈ q.1)) <;> rfl
        · rfl)
      simp only [Bool.and_true] at this
      rw [this]
      unfold isExV
      cases decide (m.1 = a.1) <;> rfl

theorem terms_le {q : List Int × List (Int × List Int)} {n : Nat} (hb : bulkT (.pair (.slice (.int .i64)) (.slice (.pair (.int .i64) (.slice (.int .i64))))) q ≤ n) : (q.2.map fun a => a.2.length).sum ≤ n := by
  have e : (q.2.map fun a => a.2.length).sum ≤ (q.2.map fun a => bulkT (.pair (.int .i64) (.slice (.int .i64))) a).sum := sum_mono fun a _ => by
    have e1 : a.2.length + 1 ≤ bulkT (.slice (.int .i64)) a.2 := bulk_len (e := .int .i64) a.2
    have e2 : bulkT (.pair (.int .i64) (.slice (.int .i64))) a = 1 + bulkT (.slice (.int .i64)) a.2 := rfl
    omega
  have e3 : bulkT (.pair (.slice (.int .i64)) (.slice (.pair (.int .i64) (.slice (.int .i64))))) q = bulkT (.slice (.int .i64)) q.1 + ((q.2.map fun a => bulkT (.pair (.int .i64) (.slice (.int .i64))) a).sum + 1) := rfl
  omega

theorem law_FnExactIsExistential (x0 : (List (Int × ((List Int) × (Int × (Int × Int)))))) (x1 : ((List Int) × (List (Int × (List Int))))) (x2 : (Int × Int)) (hb : 0 + bulkT tLPIPLIPIPII x0 + bulkT tPLILPILI x1 + bulkT tPII x2 ≤ 1048576) : f_laws_FnExactIsExistential x0 x1 x2 = some true := by
  have s0 : SmallT tLPIPLIPIPII x0 := small_of tLPIPLIPIPII x0 (by omega)
  have s1 : SmallT tPLILPILI x1 := small_of tPLILPILI x1 (by omega)
  have s2 : SmallT tPII x2 := small_of tPII x2 (by omega)
  have h1 : x0.length < 4611686018427387904 := by have : x0.length ≤ 1048576 := small_len s0; omega
  have h2 : ∀ m ∈ x0, m.2.1.length < 4611686018427387904 := fun m hm => by have : m.2.1.length ≤ 1048576 := small_len (small_mem s0 hm).2.1; omega
  have h4 : ∀ a ∈ x1.2, a.2.length < 4611686018427387904 := fun a ha => by have : a.2.length ≤ 1048576 := small_len (small_mem s1.2 ha).2; omega
  have h5 : x1.1.length ≤ 1048576 := small_len s1.1
  have h6 : x1.2.length ≤ 1048576 := small_len s1.2
  have h7 : (x1.2.map fun a => a.2.length).sum ≤ 1048576 := terms_le (show bulkT tPLILPILI x1 ≤ 1048576 by omega)
  rw [f_laws_FnExactIsExistential_eq]
  obtain ⟨r0, a0, b0, c0⟩ := sz_MethodS x0 s0 1048576 (by omega) (by omega)
  rw [a0, Option.bind_some]
  by_cases n0 : r0 < 0
  · simp [n0]
  simp only [n0, decide_false, cond_false]
  obtain ⟨r1, a1, b1, c1⟩ := sz_Query x1 s1 r0 (by omega) (by omega)
  rw [a1, Option.bind_some]
  by_cases n1 : r1 < 0
  · simp [n1]
  simp only [n1, decide_false, cond_false]
  simp only [to_MethodS x0 s0, to_Query x1 s1, to_Step x2 s2, eq_MethodS x0 s0, eq_Query x1 s1, f_laws_toStep_eq, (isExistential_same x0 x1 x2 h1 h2 h4 h5 h6 h7).1, (isExistential_same x0 x1 x2 h1 h2 h4 h5 h6 h7).2, Option.bind_some]
  all_goals simp

namespace fnExactIsExistential
open Go.ChangeShapes Go.WideShapes Go.ChangeAt Go.RowKit
theorem own : ownKnob Try.prog.godebug = none := by kernel_rfl
theorem bulk (H : Type) : Go.Lf.Bulk H Rows.uptoBulk Rows.uptoBulkAll where
  str s := by simp [Rows.uptoBulk]
  sl e s := by simp [Rows.uptoBulk]
  ag p := by simp [Rows.uptoBulk]
  nil := by simp [Rows.uptoBulkAll]
  cons d r := by simp [Rows.uptoBulkAll]
  one d := by cases d <;> first | (simp [Rows.uptoBulk]) | (rename_i l; cases l <;> simp [Rows.uptoBulk])
theorem hspec (H : Type) : ∀ ds : List (DataW H), ds.length = 3 → Rows.fnExactIsExistentialSpec.fn H ds = { results := [.lit (.bool true)], args := ds }
  | [_, _, _], _ => rfl
  | [], h => by simp at h
  | [_], h => by simp at h
  | [_, _], h => by simp at h
  | _ :: _ :: _ :: _ :: _, h => by simp at h
set_option maxRecDepth 100000 in
theorem contract (H : Type) (enc : TypeId × Value → H) (W : World) (base : Nat) (args : Array Value) (ds gs : List (DataW H)) (before : List MemPlace)
    (hval : ∀ (j : Nat) t v, Try.f5.params[j]? = some t → args[j]? = some v → Value.okWide Try.prog W .any base t v)
    (hW : DataW.Whole enc Try.prog Try.f5.params.toList Rows.fnExactIsExistentialSpec.vars false W args.toList ds gs before) (hk : Rows.uptoSmall H (ds ++ gs) = true) :
    Calls Try.prog 5 args W fun e W' => ∃ v, e = .returned v ∧ Rows.fnExactIsExistentialSpec.post enc Try.prog Try.f5 false true false false W args v W' :=
  Go.Lf.law_contract (P := Try.prog) (fn := Try.f5) (c := n_laws_FnExactIsExistential) g_laws_FnExactIsExistential (tids := [43, 42, 57]) (τs := [tLPIPLIPIPII, tPLILPILI, tPII]) (by kernel_rfl) (by kernel_rfl) (by kernel_rfl) (by kernel_rfl)
    (by decide) (by kernel_rfl) (of_decide_eq_true (by kernel_rfl)) (tb := 4) (by kernel_rfl) (by kernel_rfl)
    (s := Rows.fnExactIsExistentialSpec) rfl (hspec H) (bulk H) (N := 1048576) (fun l hl hw hb => Go.Lf.law_of_all (N := 1048576) (τs := [tLPIPLIPIPII, tPLILPILI, tPII]) (f := f_laws_FnExactIsExistential) (b := 0) (fun x0 w0 x1 w1 x2 w2 hb => law_FnExactIsExistential x0 x1 x2 hb) l hl hw (by omega)) W base args ds gs before hval hW (of_decide_eq_true hk)
set_option maxRecDepth 100000 in
theorem lifted (os : Os) (started : os.Started) (H : Type) (enc : TypeId × Value → H) (F : Stop.Interp) :
    ReturnsInHanded {} Try.checked os 5 .any ((Rows.OpenSpec.upto Rows.fnExactIsExistentialSpec).pre6 enc Try.prog Try.f5 Rows.fnExactIsExistentialUptoRow.domain false) (((Rows.OpenSpec.upto Rows.fnExactIsExistentialSpec).at F).post enc Try.prog Try.f5 false true false false) := by
  refine returnsInHanded_of_cond (C := Try.checked) (s := Rows.OpenSpec.upto Rows.fnExactIsExistentialSpec) (k := Rows.uptoSmall) rfl own started (by kernel_rfl) Try.func5
    (OpenSpec.witness (enc := enc) (C := Try.checked) (s := Rows.OpenSpec.upto Rows.fnExactIsExistentialSpec) (k := Rows.uptoSmall) rfl false ⟨#[], #[.slice none 0 0, .agg #[.slice none 0 0, .slice none 0 0], .agg #[.int .i64 0, .int .i64 0]], []⟩ 8 (by kernel_rfl) (by kernel_rfl) (by kernel_rfl)
      (x := ([.nil, .agg [.nil, .nil], .agg [.lit (.int .i64 0), .lit (.int .i64 0)]], [], [])) (by kernel_rfl) rfl (by kernel_rfl)) ?_
  intro W base args ds gs before hval hW _ hk _
  exact contract H enc W base args ds gs before hval hW hk
theorem over : Rows.fnExactIsExistentialUptoRow.holds Try.pinned (Rows.OpenSpec.upto Rows.fnExactIsExistentialSpec) :=
  OpenClaim.holds_of_cond 5 Try.f5 rfl rfl rfl rfl rfl rfl rfl ⟨rfl, rfl, rfl, rfl, rfl⟩ rfl rfl rfl rfl rfl (by kernel_rfl) Try.func5 (by kernel_rfl)
    (of_decide_eq_true (by kernel_rfl)) (by unfold Func.isWrapper; first | (rw [if_pos (by decide +kernel)]; kernel_rfl) | (rw [if_neg (by decide +kernel)]; exact ⟨rfl, rfl⟩))
    (fun os started H enc _ F => lifted os started H enc F)
theorem proved : Rows.FnExactIsExistentialUptoSaid :=
  over
end fnExactIsExistential
end Go.Proofs.Ytjffopklnampaaa
