/- FnExactAtomsFor answers true at every input of bulk at most 1048576: both functions compute the same. Conditions: none beyond the statement. -/
import Derived.Test.YtjffopklnampaaaRows
import Derived.Test.YtjffopklnampaaaFa
import Derived.WalkKit
import Derived.ProofKit
import Derived.OpenShut
import Derived.JoinedCond
set_option linter.unusedVariables false
set_option linter.unusedSimpArgs false
namespace Go.Proofs.Ytjffopklnampaaa
open Go.Lf
theorem sz_IntS (x : (List Int)) (h : SmallT tLI x) (n : Int) (h0 : 0 ≤ n) (h1 : n ≤ 1048576) : ∃ r, f_laws_szIntS x n = some r ∧ -1 ≤ r ∧ r ≤ n := by
  have hl : x.length ≤ 1048576 := small_len h
  rw [f_laws_szIntS_eq, wr (by omega) (by omega)]
  by_cases hn : n - (x.length : Int) < 0
  · exact ⟨-1, by simp [hn], by omega, by omega⟩
  · exact ⟨n - (x.length : Int), by simp [hn], by omega, by omega⟩
theorem sz_Method (x : (Int × ((List Int) × (Int × (Int × Int))))) (h : SmallT tPIPLIPIPII x) (n : Int) (h0 : 0 ≤ n) (h1 : n ≤ 1048576) : ∃ r, f_laws_szMethod x n = some r ∧ -1 ≤ r ∧ r ≤ n := by
  rw [f_laws_szMethod_eq]
  obtain ⟨r0, a0, b0, c0⟩ := sz_IntS x.2.1 h.2.1 n (by omega) (by omega)
  simp only [a0, Option.bind_some]
  by_cases n0 : r0 < 0
  · exact ⟨-1, by simp [n0], by omega, by omega⟩
  simp only [n0, decide_false, cond_false]
  exact ⟨r0, rfl, by omega, by omega⟩
theorem sz_MethodS (x : (List (Int × ((List Int) × (Int × (Int × Int)))))) (h : SmallT tLPIPLIPIPII x) (n : Int) (h0 : 0 ≤ n) (h1 : n ≤ 1048576) : ∃ r, f_laws_szMethodS x n = some r ∧ -1 ≤ r ∧ r ≤ n := by
  have hl : x.length ≤ 1048576 := small_len h
  rw [f_laws_szMethodS_eq, wr (by omega) (by omega)]
  by_cases hn : n - (x.length : Int) < 0
  · exact ⟨-1, by simp [hn], by omega, by omega⟩
  · simp only [hn, decide_false, cond_false]
    obtain ⟨r, e1, e2, e3⟩ := sz_loop (xs := x) (L := fun i s => l1_laws_szMethodS x s i) (by omega) (fun s => by rw [l1_laws_szMethodS_eq]; simp) (fun i a s ha hat hlt hw h0 h1 => by
      obtain ⟨r, e1, e2, e3⟩ := sz_Method a (small_mem h ha) s h0 h1
      refine ⟨r, e2, e3, ?_⟩
      rw [l1_laws_szMethodS_eq]
      simp only [hat, hlt, hw, e1, cond_true, Option.bind_some]) (n - (x.length : Int)) (by omega) (by omega)
    exact ⟨r, e1, e2, by omega⟩
theorem sz_Atom (x : (Int × (List Int))) (h : SmallT tPILI x) (n : Int) (h0 : 0 ≤ n) (h1 : n ≤ 1048576) : ∃ r, f_laws_szAtom x n = some r ∧ -1 ≤ r ∧ r ≤ n := by
  rw [f_laws_szAtom_eq]
  obtain ⟨r0, a0, b0, c0⟩ := sz_IntS x.2 h.2 n (by omega) (by omega)
  simp only [a0, Option.bind_some]
  by_cases n0 : r0 < 0
  · exact ⟨-1, by simp [n0], by omega, by omega⟩
  simp only [n0, decide_false, cond_false]
  exact ⟨r0, rfl, by omega, by omega⟩
theorem sz_AtomS (x : (List (Int × (List Int)))) (h : SmallT tLPILI x) (n : Int) (h0 : 0 ≤ n) (h1 : n ≤ 1048576) : ∃ r, f_laws_szAtomS x n = some r ∧ -1 ≤ r ∧ r ≤ n := by
  have hl : x.length ≤ 1048576 := small_len h
  rw [f_laws_szAtomS_eq, wr (by omega) (by omega)]
  by_cases hn : n - (x.length : Int) < 0
  · exact ⟨-1, by simp [hn], by omega, by omega⟩
  · simp only [hn, decide_false, cond_false]
    obtain ⟨r, e1, e2, e3⟩ := sz_loop (xs := x) (L := fun i s => l1_laws_szAtomS x s i) (by omega) (fun s => by rw [l1_laws_szAtomS_eq]; simp) (fun i a s ha hat hlt hw h0 h1 => by
      obtain ⟨r, e1, e2, e3⟩ := sz_Atom a (small_mem h ha) s h0 h1
      refine ⟨r, e2, e3, ?_⟩
      rw [l1_laws_szAtomS_eq]
      simp only [hat, hlt, hw, e1, cond_true, Option.bind_some]) (n - (x.length : Int)) (by omega) (by omega)
    exact ⟨r, e1, e2, by omega⟩
theorem sz_Query (x : ((List Int) × (List (Int × (List Int))))) (h : SmallT tPLILPILI x) (n : Int) (h0 : 0 ≤ n) (h1 : n ≤ 1048576) : ∃ r, f_laws_szQuery x n = some r ∧ -1 ≤ r ∧ r ≤ n := by
  rw [f_laws_szQuery_eq]
  obtain ⟨r0, a0, b0, c0⟩ := sz_IntS x.1 h.1 n (by omega) (by omega)
  simp only [a0, Option.bind_some]
  by_cases n0 : r0 < 0
  · exact ⟨-1, by simp [n0], by omega, by omega⟩
  simp only [n0, decide_false, cond_false]
  obtain ⟨r1, a1, b1, c1⟩ := sz_AtomS x.2 h.2 r0 (by omega) (by omega)
  simp only [a1, Option.bind_some]
  by_cases n1 : r1 < 0
  · exact ⟨-1, by simp [n1], by omega, by omega⟩
  simp only [n1, decide_false, cond_false]
  exact ⟨r1, rfl, by omega, by omega⟩
theorem sz_Access (x : (Int × (List Int))) (h : SmallT tPILI x) (n : Int) (h0 : 0 ≤ n) (h1 : n ≤ 1048576) : ∃ r, f_laws_szAccess x n = some r ∧ -1 ≤ r ∧ r ≤ n := by
  rw [f_laws_szAccess_eq]
  obtain ⟨r0, a0, b0, c0⟩ := sz_IntS x.2 h.2 n (by omega) (by omega)
  simp only [a0, Option.bind_some]
  by_cases n0 : r0 < 0
  · exact ⟨-1, by simp [n0], by omega, by omega⟩
  simp only [n0, decide_false, cond_false]
  exact ⟨r0, rfl, by omega, by omega⟩
theorem to_IntS (x : (List Int)) (h : SmallT tLI x) : f_laws_toIntS x = some x := by
  have hl : x.length ≤ 1048576 := small_len h
  rw [f_laws_toIntS_eq, mkOk_of (by omega)]
  have := scan_copy (xs := x) (g := id) (z := (0 : Int)) (L := fun i s => l1_laws_toIntS x s i) (by omega) (fun s => by rw [l1_laws_toIntS_eq]; simp) (fun i a s hat hlt hw hs hb => by
    obtain ⟨b, hb⟩ := hb
    rw [l1_laws_toIntS_eq]
    simp only [hat, hlt, hw, hb, cond_true, Option.bind_some, Int.toNat_natCast, id])
  simpa using this
theorem to_Method (x : (Int × ((List Int) × (Int × (Int × Int))))) (h : SmallT tPIPLIPIPII x) : f_laws_toMethod x = some x := by
  rw [f_laws_toMethod_eq, to_IntS x.2.1 h.2.1]; rfl
theorem to_MethodS (x : (List (Int × ((List Int) × (Int × (Int × Int)))))) (h : SmallT tLPIPLIPIPII x) : f_laws_toMethodS x = some x := by
  have hl : x.length ≤ 1048576 := small_len h
  rw [f_laws_toMethodS_eq, mkOk_of (by omega)]
  have := scan_copy (xs := x) (g := id) (z := ((0 : Int), (([] : List Int), ((0 : Int), ((0 : Int), (0 : Int)))))) (L := fun i s => l1_laws_toMethodS x s i) (by omega) (fun s => by rw [l1_laws_toMethodS_eq]; simp) (fun i a s hat hlt hw hs hb => by
    obtain ⟨b, hb⟩ := hb
    rw [l1_laws_toMethodS_eq]
    simp only [hat, hlt, hw, hb, cond_true, Option.bind_some, Int.toNat_natCast, id, to_Method a (small_mem h (at_mem hat))])
  simpa using this
theorem to_Atom (x : (Int × (List Int))) (h : SmallT tPILI x) : f_laws_toAtom x = some x := by
  rw [f_laws_toAtom_eq, to_IntS x.2 h.2]; rfl
theorem to_AtomS (x : (List (Int × (List Int)))) (h : SmallT tLPILI x) : f_laws_toAtomS x = some x := by
  have hl : x.length ≤ 1048576 := small_len h
  rw [f_laws_toAtomS_eq, mkOk_of (by omega)]
  have := scan_copy (xs := x) (g := id) (z := ((0 : Int), ([] : List Int))) (L := fun i s => l1_laws_toAtomS x s i) (by omega) (fun s => by rw [l1_laws_toAtomS_eq]; simp) (fun i a s hat hlt hw hs hb => by
    obtain ⟨b, hb⟩ := hb
    rw [l1_laws_toAtomS_eq]
    simp only [hat, hlt, hw, hb, cond_true, Option.bind_some, Int.toNat_natCast, id, to_Atom a (small_mem h (at_mem hat))])
  simpa using this
theorem to_Query (x : ((List Int) × (List (Int × (List Int))))) (h : SmallT tPLILPILI x) : f_laws_toQuery x = some x := by
  rw [f_laws_toQuery_eq, to_IntS x.1 h.1, to_AtomS x.2 h.2]; rfl
theorem to_Access (x : (Int × (List Int))) (h : SmallT tPILI x) : f_laws_toAccess x = some x := by
  rw [f_laws_toAccess_eq, to_IntS x.2 h.2]; rfl
theorem eq_IntS (x : (List Int)) (h : SmallT tLI x) : f_laws_eqIntS x x = some true := by
  have hl : x.length ≤ 1048576 := small_len h
  rw [f_laws_eqIntS_eq]
  have := all_loop (xs := x) (L := fun i => l1_laws_eqIntS x x i) (p := fun _ => true) (by omega) (by rw [l1_laws_eqIntS_eq]; simp) (fun i a ha hat hlt hw => by
    rw [l1_laws_eqIntS_eq]
    simp only [hat, hlt, hw, cond_true, Option.bind_some]; simp)
  simpa [all_true] using this
theorem eq_Method (x : (Int × ((List Int) × (Int × (Int × Int))))) (h : SmallT tPIPLIPIPII x) : f_laws_eqMethod x x = some true := by
  rw [f_laws_eqMethod_eq]
  simp [eq_IntS _ h.2.1]
theorem eq_MethodS (x : (List (Int × ((List Int) × (Int × (Int × Int)))))) (h : SmallT tLPIPLIPIPII x) : f_laws_eqMethodS x x = some true := by
  have hl : x.length ≤ 1048576 := small_len h
  rw [f_laws_eqMethodS_eq]
  have := all_loop (xs := x) (L := fun i => l1_laws_eqMethodS x x i) (p := fun _ => true) (by omega) (by rw [l1_laws_eqMethodS_eq]; simp) (fun i a ha hat hlt hw => by
    rw [l1_laws_eqMethodS_eq]
    simp only [hat, hlt, hw, cond_true, Option.bind_some, eq_Method a (small_mem h ha)]; simp)
  simpa [all_true] using this
theorem eq_Atom (x : (Int × (List Int))) (h : SmallT tPILI x) : f_laws_eqAtom x x = some true := by
  rw [f_laws_eqAtom_eq]
  simp [eq_IntS _ h.2]
theorem eq_AtomS (x : (List (Int × (List Int)))) (h : SmallT tLPILI x) : f_laws_eqAtomS x x = some true := by
  have hl : x.length ≤ 1048576 := small_len h
  rw [f_laws_eqAtomS_eq]
  have := all_loop (xs := x) (L := fun i => l1_laws_eqAtomS x x i) (p := fun _ => true) (by omega) (by rw [l1_laws_eqAtomS_eq]; simp) (fun i a ha hat hlt hw => by
    rw [l1_laws_eqAtomS_eq]
    simp only [hat, hlt, hw, cond_true, Option.bind_some, eq_Atom a (small_mem h ha)]; simp)
  simpa [all_true] using this
theorem eq_Query (x : ((List Int) × (List (Int × (List Int))))) (h : SmallT tPLILPILI x) : f_laws_eqQuery x x = some true := by
  rw [f_laws_eqQuery_eq]
  simp [eq_IntS _ h.1, eq_AtomS _ h.2]
theorem eq_Access (x : (Int × (List Int))) (h : SmallT tPILI x) : f_laws_eqAccess x x = some true := by
  rw [f_laws_eqAccess_eq]
  simp [eq_IntS _ h.2]
theorem mark_IntS (x : (List Int)) (n : Int) (h0 : 0 ≤ n) (h1 : n + (bulkT (.slice (.int .i64)) x : Nat) < 4611686018427387904) : ∃ m y, f_laws_markIntS x n = some (m, y) ∧ n ≤ m ∧ m ≤ n + (bulkT (.slice (.int .i64)) x : Nat) ∧ f_laws_heldIntS y n = some m := by
  have hl : x.length + 1 ≤ bulkT (.slice (.int .i64)) x := bulk_len (e := (.int .i64)) x
  have hbk : bulkT (.slice (.int .i64)) x = (x.map (bulkT (.int .i64))).sum + 1 := rfl
  rw [f_laws_markIntS_eq]
  obtain ⟨m, y, e1, e2, e3, e4, e5⟩ := mark_loop (xs := x) (b := bulkT (.int .i64)) (R := (fun a n m => n ≤ m ∧ ∀ (ys : (List Int)) (i : Nat), at? ys (i : Int) = some a → decide ((i : Int) < (ys.length : Int)) = true → IntKind.wrap .i64 ((i : Int) + 1) = ((i : Int) + 1) → l1_laws_heldIntS ys n i = l1_laws_heldIntS ys m ((i : Int) + 1))) (L := fun i v n => l1_laws_markIntS v n i) (by omega) (fun v n hv => by rw [l1_laws_markIntS_eq, ← hv]; simp) (fun i v n a hv hat hlt hset hw h0 h1 => by
    have hbe : bulkT (.int .i64) a = 1 := rfl
    have w0 : IntKind.wrap .i64 (n + 1) = n + 1 := wr (by omega) (by omega)
    refine ⟨n, n + 1, by omega, by omega, ⟨by omega, fun ys i hat hlt hw => ?_⟩, ?_⟩
    · rw [l1_laws_heldIntS_eq]; simp only [hat, hlt, hw, cond_true, Option.bind_some, bne_self_eq_false, cond_false, decide_false, w0]
    · rw [l1_laws_markIntS_eq]; simp only [hat, hlt, hset, hw, cond_true, Option.bind_some, Int.toNat_natCast, List.set_set, w0]) n h0 (by omega)
  exact ⟨m, y, e1, e2, by omega, by rw [f_laws_heldIntS_eq]; exact held_loop (R := (fun a n m => n ≤ m ∧ ∀ (ys : (List Int)) (i : Nat), at? ys (i : Int) = some a → decide ((i : Int) < (ys.length : Int)) = true → IntKind.wrap .i64 ((i : Int) + 1) = ((i : Int) + 1) → l1_laws_heldIntS ys n i = l1_laws_heldIntS ys m ((i : Int) + 1))) (L := fun i n => l1_laws_heldIntS y n i) (by omega) (fun n => by rw [l1_laws_heldIntS_eq]; simp) (fun i a n m hat hlt hw h0 hr => ⟨by omega, hr.2 y i hat hlt hw⟩) h0 e4⟩
theorem mark_MethodS (x : (List (Int × ((List Int) × (Int × (Int × Int)))))) (n : Int) (h0 : 0 ≤ n) (h1 : n + (bulkT (.slice (.pair (.int .i64) (.pair (.slice (.int .i64)) (.pair (.int .i64) (.pair (.int .i64) (.int .i64)))))) x : Nat) < 4611686018427387904) : ∃ m y, f_laws_markMethodS x n = some (m, y) ∧ n ≤ m ∧ m ≤ n + (bulkT (.slice (.pair (.int .i64) (.pair (.slice (.int .i64)) (.pair (.int .i64) (.pair (.int .i64) (.int .i64)))))) x : Nat) := by
  have hl : x.length + 1 ≤ bulkT (.slice (.pair (.int .i64) (.pair (.slice (.int .i64)) (.pair (.int .i64) (.pair (.int .i64) (.int .i64)))))) x := bulk_len (e := (.pair (.int .i64) (.pair (.slice (.int .i64)) (.pair (.int .i64) (.pair (.int .i64) (.int .i64)))))) x
  have hbk : bulkT (.slice (.pair (.int .i64) (.pair (.slice (.int .i64)) (.pair (.int .i64) (.pair (.int .i64) (.int .i64)))))) x = (x.map (bulkT (.pair (.int .i64) (.pair (.slice (.int .i64)) (.pair (.int .i64) (.pair (.int .i64) (.int .i64))))))).sum + 1 := rfl
  rw [f_laws_markMethodS_eq]
  obtain ⟨m, y, e1, e2, e3, e4, e5⟩ := mark_loop (xs := x) (b := bulkT (.pair (.int .i64) (.pair (.slice (.int .i64)) (.pair (.int .i64) (.pair (.int .i64) (.int .i64)))))) (R := (fun _ _ _ => True)) (L := fun i v n => l1_laws_markMethodS v n i) (by omega) (fun v n hv => by rw [l1_laws_markMethodS_eq, ← hv]; simp) (fun i v n a hv hat hlt hset hw h0 h1 => by
    have hbe : bulkT (.pair (.int .i64) (.pair (.slice (.int .i64)) (.pair (.int .i64) (.pair (.int .i64) (.int .i64))))) a = (1 + (bulkT (.slice (.int .i64)) a.2.1 + (1 + (1 + 1)))) := rfl
    have w0 : IntKind.wrap .i64 (n + 1) = n + 1 := wr (by omega) (by omega)
    obtain ⟨k1, y1, a1, b1, c1, d1⟩ := mark_IntS (a.2.1) (n + 1) (by omega) (by omega)
    have w1 : IntKind.wrap .i64 (k1 + 1) = k1 + 1 := wr (by omega) (by omega)
    have w2 : IntKind.wrap .i64 (k1 + 1 + 1) = k1 + 1 + 1 := wr (by omega) (by omega)
    have w3 : IntKind.wrap .i64 (k1 + 1 + 1 + 1) = k1 + 1 + 1 + 1 := wr (by omega) (by omega)
    refine ⟨(n, (y1, (k1, (k1 + 1, k1 + 1 + 1)))), k1 + 1 + 1 + 1, by omega, by omega, trivial, ?_⟩
    rw [l1_laws_markMethodS_eq]; simp only [hat, hlt, hset, hw, cond_true, Option.bind_some, Int.toNat_natCast, List.set_set, w0, a1, w1, w2, w3]) n h0 (by omega)
  exact ⟨m, y, e1, e2, by omega⟩
theorem mark_AtomS (x : (List (Int × (List Int)))) (n : Int) (h0 : 0 ≤ n) (h1 : n + (bulkT (.slice (.pair (.int .i64) (.slice (.int .i64)))) x : Nat) < 4611686018427387904) : ∃ m y, f_laws_markAtomS x n = some (m, y) ∧ n ≤ m ∧ m ≤ n + (bulkT (.slice (.pair (.int .i64) (.slice (.int .i64)))) x : Nat) := by
  have hl : x.length + 1 ≤ bulkT (.slice (.pair (.int .i64) (.slice (.int .i64)))) x := bulk_len (e := (.pair (.int .i64) (.slice (.int .i64)))) x
  have hbk : bulkT (.slice (.pair (.int .i64) (.slice (.int .i64)))) x = (x.map (bulkT (.pair (.int .i64) (.slice (.int .i64))))).sum + 1 := rfl
  rw [f_laws_markAtomS_eq]
  obtain ⟨m, y, e1, e2, e3, e4, e5⟩ := mark_loop (xs := x) (b := bulkT (.pair (.int .i64) (.slice (.int .i64)))) (R := (fun _ _ _ => True)) (L := fun i v n => l1_laws_markAtomS v n i) (by omega) (fun v n hv => by rw [l1_laws_markAtomS_eq, ← hv]; simp) (fun i v n a hv hat hlt hset hw h0 h1 => by
    have hbe : bulkT (.pair (.int .i64) (.slice (.int .i64))) a = (1 + bulkT (.slice (.int .i64)) a.2) := rfl
    have w0 : IntKind.wrap .i64 (n + 1) = n + 1 := wr (by omega) (by omega)
    obtain ⟨k1, y1, a1, b1, c1, d1⟩ := mark_IntS (a.2) (n + 1) (by omega) (by omega)
    refine ⟨(n, y1), k1, by omega, by omega, trivial, ?_⟩
    rw [l1_laws_markAtomS_eq]; simp only [hat, hlt, hset, hw, cond_true, Option.bind_some, Int.toNat_natCast, List.set_set, w0, a1]) n h0 (by omega)
  exact ⟨m, y, e1, e2, by omega⟩
theorem mark_Query (x : ((List Int) × (List (Int × (List Int))))) (n : Int) (h0 : 0 ≤ n) (h1 : n + (bulkT (.pair (.slice (.int .i64)) (.slice (.pair (.int .i64) (.slice (.int .i64))))) x : Nat) < 4611686018427387904) : ∃ m y, f_laws_markQuery x n = some (m, y) ∧ n ≤ m ∧ m ≤ n + (bulkT (.pair (.slice (.int .i64)) (.slice (.pair (.int .i64) (.slice (.int .i64))))) x : Nat) := by
  have hbe : bulkT (.pair (.slice (.int .i64)) (.slice (.pair (.int .i64) (.slice (.int .i64))))) x = (bulkT (.slice (.int .i64)) x.1 + bulkT (.slice (.pair (.int .i64) (.slice (.int .i64)))) x.2) := rfl
  obtain ⟨k1, y1, a1, b1, c1, d1⟩ := mark_IntS (x.1) (n) (by omega) (by omega)
  obtain ⟨k2, y2, a2, b2, c2⟩ := mark_AtomS (x.2) (k1) (by omega) (by omega)
  refine ⟨k2, (y1, y2), ?_, by omega, by omega⟩
  · rw [f_laws_markQuery_eq]; simp only [a1, a2, Option.bind_some]
theorem mark_Access (x : (Int × (List Int))) (n : Int) (h0 : 0 ≤ n) (h1 : n + (bulkT (.pair (.int .i64) (.slice (.int .i64))) x : Nat) < 4611686018427387904) : ∃ m y, f_laws_markAccess x n = some (m, y) ∧ n ≤ m ∧ m ≤ n + (bulkT (.pair (.int .i64) (.slice (.int .i64))) x : Nat) := by
  have hbe : bulkT (.pair (.int .i64) (.slice (.int .i64))) x = (1 + bulkT (.slice (.int .i64)) x.2) := rfl
  obtain ⟨k1, y1, a1, b1, c1, d1⟩ := mark_IntS (x.2) (n) (by omega) (by omega)
  refine ⟨k1, (0, y1), ?_, by omega, by omega⟩
  · rw [f_laws_markAccess_eq]; simp only [a1, Option.bind_some]
theorem within_eq : f_spec_l1In = f_impl_within := by
  funext a b c
  rw [f_spec_l1In_eq, f_impl_within_eq]
theorem within_val (a b c : Int) : f_impl_within a b c = some (decide (b ≤ a) && decide (a ≤ c)) := by
  rw [f_impl_within_eq]
  by_cases h : a ≥ b
  · have h' : b ≤ a := h
    simp [h']
  · have h' : ¬ b ≤ a := h
    simp [h']
def isVarV (x : Int) : Bool := decide (10 ≤ x) && decide (x ≤ 17)
theorem spec_isVar_val (x : Int) : f_spec_IsVar x = some (isVarV x) := by
  rw [f_spec_IsVar_eq, within_eq, within_val]; rfl
theorem impl_isVar_val (x : Int) : f_impl_IsVar x = some (isVarV x) := by
  rw [f_impl_IsVar_eq, within_val]; rfl
/-- A place of a list. -/
def inLen (p : Int) (n : Nat) : Bool := decide (0 ≤ p) && decide (p < (n : Int))
theorem within_len (p : Int) (n : Nat) (h : n < 4611686018427387904) : f_impl_within p 0 (IntKind.wrap .i64 ((n : Int) - 1)) = some (inLen p n) := by
  rw [wr (by omega) (by omega), within_val]
  unfold inLen
  congr 2
  rw [Bool.eq_iff_iff]; simp only [decide_eq_true_eq]; omega
theorem at_inLen {α : Type} {l : List α} {p : Int} (h : inLen p l.length = true) : ∃ a, at? l p = some a ∧ a ∈ l := by
  unfold inLen at h
  rw [Bool.and_eq_true, decide_eq_true_eq, decide_eq_true_eq] at h
  refine ⟨l[p.toNat]'(by omega), ?_, List.getElem_mem _⟩
  unfold at?
  rw [if_pos h.1, List.getElem?_eq_getElem]
theorem at_out {α : Type} {l : List α} {p : Int} (h : inLen p l.length = false) : at? l p = none := by
  unfold inLen at h
  rw [Bool.and_eq_false_iff, decide_eq_false_iff_not, decide_eq_false_iff_not] at h
  unfold at?
  split
  · exact List.getElem?_eq_none (by omega)
  · rfl

/-- One input of an access. -/
def inputOk (ts x : List Int) (k : Nat) (p : Int) : Bool := inLen p ts.length && (isVarV ((at? ts p).getD 0) || decide ((at? ts p).getD 0 = (x[k]?).getD 0))
def isForV (m : Int × (List Int × (Int × (Int × Int)))) (a : Int × List Int) (x : List Int) : Bool := decide (a.1 = m.1) && allIx (inputOk a.2 x) m.2.1
def atomsForV (ms : List (Int × (List Int × (Int × (Int × Int))))) (q : List Int × List (Int × List Int)) (x : Int × List Int) : List Int :=
  match at? ms x.1 with
  | some m => if x.2.length = m.2.1.length then mapIx (fun i a => if isForV m a x.2 = true then some (i : Int) else none) q.2 else []
  | none => []
theorem atomsForV_len (ms : List (Int × (List Int × (Int × (Int × Int))))) (q : List Int × List (Int × List Int)) (x : Int × List Int) : (atomsForV ms q x).length ≤ q.2.length := by
  unfold atomsForV
  split
  · split
    · exact mapIx_len _ _
    · simp
  · simp
theorem impl_isFor_val (m : Int × (List Int × (Int × (Int × Int)))) (a : Int × List Int) (x : List Int) (h : m.2.1.length < 4611686018427387904) (h2 : a.2.length < 4611686018427387904) (hx : x.length = m.2.1.length) : f_impl_isFor m a x = some (isForV m a x) := by
  rw [f_impl_isFor_eq]
  have := allIx_loop (xs := m.2.1) (L := fun i => l1_impl_isFor x m.1 m.2.1 m.2.2.1 m.2.2.2.1 m.2.2.2.2 a.1 a.2 m.2.1 (m.2.1.length : Int) i) (p := inputOk a.2 x) (d := decide (a.1 = m.1)) h (by
      rw [l1_impl_isFor_eq]; simp only [Int.lt_irrefl, decide_false, cond_false, beq_dec]; congr 1; rw [Bool.eq_iff_iff]; simp only [decide_eq_true_eq]; exact eq_comm) (fun i p hm hat hlt hw => by
    rw [l1_impl_isFor_eq]
    have hil : i < m.2.1.length := by simpa using hlt
    simp only [hat, hlt, hw, cond_true, Option.bind_some, within_len _ _ h2]
    unfold inputOk
    cases hin : inLen p a.2.length with
    | false => simp
    | true =>
      obtain ⟨t, ht, _⟩ := at_inLen hin
      have hxi : at? x (i : Int) = some x[i] := by rw [at_nat]; exact List.getElem?_eq_getElem (by omega)
      have hxi' : x[i]? = some x[i] := List.getElem?_eq_getElem (by omega)
      simp only [ht, hxi, hxi', Bool.not_true, cond_false, Option.bind_some, impl_isVar_val, Option.getD_some, Bool.true_and, bne_dec]
      cases isVarV t <;> cases decide (t = x[i]) <;> rfl)
  rw [this]
  unfold isForV
  rw [Bool.and_comm]
theorem impl_atomsFor_val (ms : List (Int × (List Int × (Int × (Int × Int))))) (q : List Int × List (Int × List Int)) (x : Int × List Int) (h : ms.length < 4611686018427387904) (h2 : ∀ m ∈ ms, m.2.1.length < 4611686018427387904) (h3 : q.2.length < 4611686018) (h4 : ∀ a ∈ q.2, a.2.length < 4611686018427387904) : f_impl_AtomsFor ms q x = some (atomsForV ms q x) := by
  rw [f_impl_AtomsFor_eq, within_len _ _ h]
  unfold atomsForV
  cases hin : inLen x.1 ms.length with
  | false =>
    simp [at_out hin]
  | true =>
    obtain ⟨m, hm, hmem⟩ := at_inLen hin
    simp only [hm, Bool.not_true, cond_false, Option.bind_some, bne_len]
    by_cases hl : x.2.length = m.2.1.length
    · have := collect_loop (xs := q.2) (L := fun i s => l1_impl_AtomsFor ms x.1 x.2 s q.2 (q.2.length : Int) i) (g := fun i a => if isForV m a x.2 = true then some (i : Int) else none) (f := some) (by omega) (fun s => by rw [l1_impl_AtomsFor_eq]; simp) (fun i a s ha hat hlt hw hf => by
        rw [l1_impl_AtomsFor_eq]
        simp only [hat, hlt, hw, cond_true, Option.bind_some, hm, impl_isFor_val m a x.2 (h2 m hmem) (h4 a ha) hl, l2_impl_AtomsFor_eq, List.length_cons, List.length_nil, Nat.zero_add, hf]
        cases isForV m a x.2 <;> simp) [] (by simp only [List.length_nil]; omega)
      simp only [List.nil_append] at this
      simp only [hl, decide_true, Bool.not_true, cond_false, if_true]
      exact this
    · simp [hl]
theorem spec_atomsFor_val (ms : List (Int × (List Int × (Int × (Int × Int))))) (q : List Int × List (Int × List Int)) (x : Int × List Int) (h : ms.length < 4611686018427387904) (h2 : ∀ m ∈ ms, m.2.1.length < 4611686018427387904) (h3 : q.2.length < 4611686018) (h4 : ∀ a ∈ q.2, a.2.length < 4611686018427387904) : f_spec_AtomsFor ms q x = some (atomsForV ms q x) := by
  rw [f_spec_AtomsFor_eq, within_eq, within_len _ _ h]
  unfold atomsForV
  cases hin : inLen x.1 ms.length with
  | false =>
    simp [at_out hin]
  | true =>
    obtain ⟨m, hm, hmem⟩ := at_inLen hin
    simp only [hm, Bool.not_true, cond_false, Option.bind_some, bne_len]
    by_cases hl : x.2.length = m.2.1.length
    · have := collect_loop (xs := q.2) (L := fun i s => l1_spec_AtomsFor q.1 q.2 x.1 x.2 s m.1 m.2.1 m.2.2.1 m.2.2.2.1 m.2.2.2.2 i) (g := fun i a => if isForV m a x.2 = true then some (i : Int) else none) (f := some) (by omega) (fun s => by rw [l1_spec_AtomsFor_eq]; simp) (fun i a s ha hat hlt hw hf => by
        rw [l1_spec_AtomsFor_eq]
        simp only [hat, hlt, cond_true, Option.bind_some]
        have hm2 := h2 m hmem
        have ha4 := h4 a ha
        have hi := flag_loop (xs := m.2.1) (L := fun k b => l2_spec_AtomsFor q.1 q.2 x.1 x.2 s m.1 m.2.1 m.2.2.1 m.2.2.2.1 m.2.2.2.2 i b k) (p := inputOk a.2 x.2)
          (T := l1_spec_AtomsFor q.1 q.2 x.1 x.2 (s ++ [(i : Int)]) m.1 m.2.1 m.2.2.1 m.2.2.2.1 m.2.2.2.2 (i + 1)) (F := l1_spec_AtomsFor q.1 q.2 x.1 x.2 s m.1 m.2.1 m.2.2.1 m.2.2.2.1 m.2.2.2.2 (i + 1)) hm2
          (fun b => by
            rw [l2_spec_AtomsFor_eq]
            simp only [Int.lt_irrefl, decide_false, cond_false, Option.bind_some, List.length_cons, List.length_nil, Nat.zero_add, hf, cond_true, l3_spec_AtomsFor_eq, hw])
          (fun k hk => by
            rw [l2_spec_AtomsFor_eq]
            have : (k : Int) < (m.2.1.length : Int) := by omega
            simp only [this, decide_true, cond_true, cond_false, Option.bind_some, l3_spec_AtomsFor_eq, hw])
          (fun k p hp hpt hkl hkw => by
            have hil : k < m.2.1.length := by simpa using hkl
            rw [l2_spec_AtomsFor_eq]
            simp only [hpt, hkl, hkw, hat, cond_true, Option.bind_some, within_eq, within_len _ _ ha4]
            unfold inputOk
            cases hin : inLen p a.2.length with
            | false => simp
            | true =>
              obtain ⟨t, ht, _⟩ := at_inLen hin
              have hxi : at? x.2 (k : Int) = some x.2[k] := by rw [at_nat]; exact List.getElem?_eq_getElem (by omega)
              have hxi' : x.2[k]? = some x.2[k] := List.getElem?_eq_getElem (by omega)
              simp only [ht, hxi, hxi', cond_true, Option.bind_some, spec_isVar_val, Option.getD_some, Bool.true_and, beq_dec]
              cases isVarV t <;> cases decide (t = x.2[k]) <;> rfl) (a.1 == m.1)
        rw [hi]
        rw [show ((a.1 == m.1) && allIx (inputOk a.2 x.2) m.2.1) = isForV m a x.2 by unfold isForV; rw [beq_dec]]
        cases isForV m a x.2 <;> simp) [] (by simp only [List.length_nil]; omega)
      simp only [List.nil_append] at this
      simp only [hl, decide_true, Bool.not_true, cond_false, if_true]
      exact this
    · simp [hl]

theorem terms_le {q : List Int × List (Int × List Int)} {n : Nat} (hb : bulkT (.pair (.slice (.int .i64)) (.slice (.pair (.int .i64) (.slice (.int .i64))))) q ≤ n) : (q.2.map fun a => a.2.length).sum ≤ n := by
  have e : (q.2.map fun a => a.2.length).sum ≤ (q.2.map fun a => bulkT (.pair (.int .i64) (.slice (.int .i64))) a).sum := sum_mono fun a _ => by
    have e1 : a.2.length + 1 ≤ bulkT (.slice (.int .i64)) a.2 := bulk_len (e := .int .i64) a.2
    have e2 : bulkT (.pair (.int .i64) (.slice (.int .i64))) a = 1 + bulkT (.slice (.int .i64)) a.2 := rfl
    omega
  have e3 : bulkT (.pair (.slice (.int .i64)) (.slice (.pair (.int .i64) (.slice (.int .i64))))) q = bulkT (.slice (.int .i64)) q.1 + ((q.2.map fun a => bulkT (.pair (.int .i64) (.slice (.int .i64))) a).sum + 1) := rfl
  omega

theorem law_FnExactAtomsFor (x0 : (List (Int × ((List Int) × (Int × (Int × Int)))))) (x1 : ((List Int) × (List (Int × (List Int))))) (x2 : (Int × (List Int))) (hb : 0 + bulkT tLPIPLIPIPII x0 + bulkT tPLILPILI x1 + bulkT tPILI x2 ≤ 1048576) : f_laws_FnExactAtomsFor x0 x1 x2 = some true := by
  have s0 : SmallT tLPIPLIPIPII x0 := small_of tLPIPLIPIPII x0 (by omega)
  have s1 : SmallT tPLILPILI x1 := small_of tPLILPILI x1 (by omega)
  have s2 : SmallT tPILI x2 := small_of tPILI x2 (by omega)
  have b0 : bulkT (.slice (.pair (.int .i64) (.pair (.slice (.int .i64)) (.pair (.int .i64) (.pair (.int .i64) (.int .i64)))))) x0 ≤ 1048576 := show bulkT tLPIPLIPIPII x0 ≤ 1048576 by omega
  have b1 : bulkT (.pair (.slice (.int .i64)) (.slice (.pair (.int .i64) (.slice (.int .i64))))) x1 ≤ 1048576 := show bulkT tPLILPILI x1 ≤ 1048576 by omega
  have b2 : bulkT (.pair (.int .i64) (.slice (.int .i64))) x2 ≤ 1048576 := show bulkT tPILI x2 ≤ 1048576 by omega
  have h1 : x0.length < 4611686018427387904 := by have : x0.length ≤ 1048576 := small_len s0; omega
  have h2 : ∀ m ∈ x0, m.2.1.length < 4611686018427387904 := fun m hm => by have : m.2.1.length ≤ 1048576 := small_len (small_mem s0 hm).2.1; omega
  have h3 : x1.2.length < 4611686018 := by have : x1.2.length ≤ 1048576 := small_len s1.2; omega
  have h4 : ∀ a ∈ x1.2, a.2.length < 4611686018427387904 := fun a ha => by have : a.2.length ≤ 1048576 := small_len (small_mem s1.2 ha).2; omega
  have hv0 : (atomsForV x0 x1 x2).length ≤ 1048576 := Nat.le_trans (atomsForV_len x0 x1 x2) (small_len s1.2)
  have hv : SmallT tLI (atomsForV x0 x1 x2) := ⟨hv0, fun _ _ => trivial⟩
  have hvb : bulkT (.slice (.int .i64)) (atomsForV x0 x1 x2) ≤ 1048577 := by
    have e : bulkT (.slice (.int .i64)) (atomsForV x0 x1 x2) = ((atomsForV x0 x1 x2).map fun _ => 1).sum + 1 := rfl
    rw [e, List.map_const', List.sum_replicate_nat]; omega
  rw [f_laws_FnExactAtomsFor_eq]
  obtain ⟨r0, a0, b0, c0⟩ := sz_MethodS x0 s0 1048576 (by omega) (by omega)
  rw [a0, Option.bind_some]
  by_cases n0 : r0 < 0
  · simp [n0]
  simp only [n0, decide_false, cond_false]
  obtain ⟨r1, a1, b1, c1⟩ := sz_Query x1 s1 r0 (by omega) (by omega)
  rw [a1, Option.bind_some]
  by_cases n1 : r1 < 0
  · simp [n1]
  simp only [n1, decide_false, cond_false]
  obtain ⟨r2, a2, b2, c2⟩ := sz_Access x2 s2 r1 (by omega) (by omega)
  rw [a2, Option.bind_some]
  by_cases n2 : r2 < 0
  · simp [n2]
  simp only [n2, decide_false, cond_false]
  obtain ⟨m1, y1, o1, u1, v1⟩ := mark_MethodS x0 1 (by omega) (by omega)
  obtain ⟨m2, y2, o2, u2, v2⟩ := mark_Query x1 m1 (by omega) (by omega)
  obtain ⟨m3, y3, o3, u3, v3⟩ := mark_Access x2 m2 (by omega) (by omega)
  obtain ⟨m4, y4, o4, u4, v4, p4⟩ := mark_IntS (atomsForV x0 x1 x2) 1 (by omega) (by omega)
  simp only [to_MethodS x0 s0, to_Query x1 s1, to_Access x2 s2, eq_MethodS x0 s0, eq_Query x1 s1, eq_Access x2 s2, o1, show ¬ m1 < (0 : Int) by omega, o2, show ¬ m2 < (0 : Int) by omega, o3, show ¬ m3 < (0 : Int) by omega, o4, p4, show ¬ m4 < (0 : Int) by omega, bne_self_eq_false, cond_false, decide_false, Bool.not_true, spec_atomsFor_val x0 x1 x2 h1 h2 h3 h4, impl_atomsFor_val x0 x1 x2 h1 h2 h3 h4, eq_IntS _ hv, Option.bind_some]
  all_goals simp

namespace fnExactAtomsFor
open Go.ChangeShapes Go.WideShapes Go.ChangeAt Go.RowKit
theorem own : ownKnob Try.prog.godebug = none := by kernel_rfl
theorem bulk (H : Type) : Go.Lf.Bulk H Rows.uptoBulk Rows.uptoBulkAll where
  str s := by simp [Rows.uptoBulk]
  sl e s := by simp [Rows.uptoBulk]
  ag p := by simp [Rows.uptoBulk]
  nil := by simp [Rows.uptoBulkAll]
  cons d r := by simp [Rows.uptoBulkAll]
  one d := by cases d <;> first | (simp [Rows.uptoBulk]) | (rename_i l; cases l <;> simp [Rows.uptoBulk])
theorem hspec (H : Type) : ∀ ds : List (DataW H), ds.length = 3 → Rows.fnExactAtomsForSpec.fn H ds = { results := [.lit (.bool true)], args := ds }
  | [_, _, _], _ => rfl
  | [], h => by simp at h
  | [_], h => by simp at h
  | [_, _], h => by simp at h
  | _ :: _ :: _ :: _ :: _, h => by simp at h
set_option maxRecDepth 100000 in
theorem contract (H : Type) (enc : TypeId × Value → H) (W : World) (base : Nat) (args : Array Value) (ds gs : List (DataW H)) (before : List MemPlace)
    (hval : ∀ (j : Nat) t v, Try.f7.params[j]? = some t → args[j]? = some v → Value.okWide Try.prog W .any base t v)
    (hW : DataW.Whole enc Try.prog Try.f7.params.toList Rows.fnExactAtomsForSpec.vars false W args.toList ds gs before) (hk : Rows.uptoSmall H (ds ++ gs) = true) :
    Calls Try.prog 7 args W fun e W' => ∃ v, e = .returned v ∧ Rows.fnExactAtomsForSpec.post enc Try.prog Try.f7 false true false false W args v W' :=
  Go.Lf.law_contract (P := Try.prog) (fn := Try.f7) (c := n_laws_FnExactAtomsFor) g_laws_FnExactAtomsFor (tids := [43, 42, 27]) (τs := [tLPIPLIPIPII, tPLILPILI, tPILI]) (by kernel_rfl) (by kernel_rfl) (by kernel_rfl) (by kernel_rfl)
    (by decide) (by kernel_rfl) (of_decide_eq_true (by kernel_rfl)) (tb := 4) (by kernel_rfl) (by kernel_rfl)
    (s := Rows.fnExactAtomsForSpec) rfl (hspec H) (bulk H) (N := 1048576) (fun l hl hw hb => Go.Lf.law_of_all (N := 1048576) (τs := [tLPIPLIPIPII, tPLILPILI, tPILI]) (f := f_laws_FnExactAtomsFor) (b := 0) (fun x0 w0 x1 w1 x2 w2 hb => law_FnExactAtomsFor x0 x1 x2 hb) l hl hw (by omega)) W base args ds gs before hval hW (of_decide_eq_true hk)
set_option maxRecDepth 100000 in
theorem lifted (os : Os) (started : os.Started) (H : Type) (enc : TypeId × Value → H) (F : Stop.Interp) :
    ReturnsInHanded {} Try.checked os 7 .any ((Rows.OpenSpec.upto Rows.fnExactAtomsForSpec).pre6 enc Try.prog Try.f7 Rows.fnExactAtomsForUptoRow.domain false) (((Rows.OpenSpec.upto Rows.fnExactAtomsForSpec).at F).post enc Try.prog Try.f7 false true false false) := by
  refine returnsInHanded_of_cond (C := Try.checked) (s := Rows.OpenSpec.upto Rows.fnExactAtomsForSpec) (k := Rows.uptoSmall) rfl own started (by kernel_rfl) Try.func7
    (OpenSpec.witness (enc := enc) (C := Try.checked) (s := Rows.OpenSpec.upto Rows.fnExactAtomsForSpec) (k := Rows.uptoSmall) rfl false ⟨#[], #[.slice none 0 0, .agg #[.slice none 0 0, .slice none 0 0], .agg #[.int .i64 0, .slice none 0 0]], []⟩ 8 (by kernel_rfl) (by kernel_rfl) (by kernel_rfl)
      (x := ([.nil, .agg [.nil, .nil], .agg [.lit (.int .i64 0), .nil]], [], [])) (by kernel_rfl) rfl (by kernel_rfl)) ?_
  intro W base args ds gs before hval hW _ hk _
  exact contract H enc W base args ds gs before hval hW hk
theorem over : Rows.fnExactAtomsForUptoRow.holds Try.pinned (Rows.OpenSpec.upto Rows.fnExactAtomsForSpec) :=
  OpenClaim.holds_of_cond 7 Try.f7 rfl rfl rfl rfl rfl rfl rfl ⟨rfl, rfl, rfl, rfl, rfl⟩ rfl rfl rfl rfl rfl (by kernel_rfl) Try.func7 (by kernel_rfl)
    (of_decide_eq_true (by kernel_rfl)) (by unfold Func.isWrapper; first | (rw [if_pos (by decide +kernel)]; kernel_rfl) | (rw [if_neg (by decide +kernel)]; exact ⟨rfl, rfl⟩))
    (fun os started H enc _ F => lifted os started H enc F)
theorem proved : Rows.FnExactAtomsForUptoSaid :=
  over
end fnExactAtomsFor
end Go.Proofs.Ytjffopklnampaaa
