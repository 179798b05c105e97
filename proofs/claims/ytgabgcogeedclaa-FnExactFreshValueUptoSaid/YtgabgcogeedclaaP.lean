/- FnExactFreshValue answers true at every input of bulk at most 1048576: both functions compute the same. Conditions: none beyond the statement. -/
import Derived.Test.YtgabgcogeedclaaRows
import Derived.Test.YtgabgcogeedclaaFa
import Derived.WalkKit
import Derived.ProofKit
import Derived.OpenShut
import Derived.JoinedCond
set_option linter.unusedVariables false
set_option linter.unusedSimpArgs false
namespace Go.Proofs.Ytgabgcogeedclaa
open Go.Lf
theorem to_IntS (x : (List Int)) (h : SmallT tLI x) : f_laws_toIntS x = some x := by
  have hl : x.length ≤ 1048576 := small_len h
  rw [f_laws_toIntS_eq, mkOk_of (by omega)]
  have := scan_copy (xs := x) (g := id) (z := (0 : Int)) (L := fun i s => l1_laws_toIntS x s i) (by omega) (fun s => by rw [l1_laws_toIntS_eq]; simp) (fun i a s hat hlt hw hs hb => by
    obtain ⟨b, hb⟩ := hb
    rw [l1_laws_toIntS_eq]
    simp only [hat, hlt, hw, hb, cond_true, Option.bind_some, Int.toNat_natCast, id])
  simpa using this
theorem eq_IntS (x : (List Int)) (h : SmallT tLI x) : f_laws_eqIntS x x = some true := by
  have hl : x.length ≤ 1048576 := small_len h
  rw [f_laws_eqIntS_eq]
  have := all_loop (xs := x) (L := fun i => l1_laws_eqIntS x x i) (p := fun _ => true) (by omega) (by rw [l1_laws_eqIntS_eq]; simp) (fun i a ha hat hlt hw => by
    rw [l1_laws_eqIntS_eq]
    simp only [hat, hlt, hw, cond_true, Option.bind_some]; simp)
  simpa [all_true] using this
theorem index_int_val (x : List Int) (a : Int) (h : x.length < 4611686018427387904) : f_slices_Index_int x a = some (match x.findIdx? (fun b => a == b) with | some i => (i : Int) | none => -1) := by
  rw [f_slices_Index_int_eq]
  exact index_loop (xs := x) (L := fun i => l1_slices_Index_int x a (x.length : Int) i) (p := fun b => a == b) h (by rw [l1_slices_Index_int_eq]; simp) (fun i b hm hat hlt hw => by
    rw [l1_slices_Index_int_eq]
    simp only [hat, hlt, hw, cond_true, Option.bind_some])
theorem contains_int_val (x : List Int) (a : Int) (h : x.length < 4611686018427387904) : f_slices_Contains_int x a = some (decide (a ∈ x)) := by
  rw [f_slices_Contains_int_eq, index_int_val x a h]
  simp only [Option.bind_some]
  cases hf : x.findIdx? (fun b => a == b) with
  | none =>
    rw [List.findIdx?_eq_none_iff] at hf
    have : a ∉ x := fun hm => by have := hf a hm; simp at this
    simp [this]
  | some i =>
    rw [List.findIdx?_eq_some_iff_getElem] at hf
    obtain ⟨hi, he, _⟩ := hf
    have he' : a = x[i] := by simpa using he
    have : a ∈ x := by rw [he']; exact List.getElem_mem hi
    simp [this]

theorem l2Has_val (x : List Int) (a : Int) (h : x.length < 4611686018427387904) : f_spec_l2Has x a = some (decide (a ∈ x)) := by
  rw [f_spec_l2Has_eq]
  refine (any_loop (xs := x) (L := fun i => l1_spec_l2Has x a i) (p := fun b => b == a) h (by rw [l1_spec_l2Has_eq]; simp) (fun i b hm hat hlt hw => by
    rw [l1_spec_l2Has_eq]
    simp only [hat, hlt, hw, cond_true, Option.bind_some])).trans ?_
  congr 1
  rw [Bool.eq_iff_iff]
  simp

theorem freshValue_eq (x : List Int) (h : x.length < 4611686018427387904) : ∀ (n : Nat) (i : Int), i = 10 - n → 0 ≤ i → l1_spec_FreshValue x i = l1_impl_FreshValue x i ∧ ∃ r, l1_impl_FreshValue x i = some r := by
  intro n
  induction n with
  | zero =>
    intro i hi h0
    rw [l1_spec_FreshValue_eq, l1_impl_FreshValue_eq]
    have h1 : ¬ i ≤ 9 := by omega
    have h2 : ¬ i < 10 := by omega
    simp [h1, h2]
  | succ n ih =>
    intro i hi h0
    have h1 : i ≤ 9 := by omega
    have h2 : i < 10 := by omega
    obtain ⟨g1, r, g2⟩ := ih (i + 1) (by omega) (by omega)
    rw [l1_spec_FreshValue_eq, l1_impl_FreshValue_eq]
    simp only [h1, h2, decide_true, cond_true, l2Has_val _ _ h, contains_int_val _ _ h, Option.bind_some, wr (x := i + 1) (by omega) (by omega), g1, g2]
    cases decide (i ∈ x) <;> simp
theorem freshValue_same (x : List Int) (h : x.length < 4611686018427387904) : f_spec_FreshValue x = f_impl_FreshValue x ∧ ∃ r, f_impl_FreshValue x = some r := by
  rw [f_spec_FreshValue_eq, f_impl_FreshValue_eq]
  exact freshValue_eq x h 10 0 (by omega) (by omega)

theorem law_FnExactFreshValue (x0 : List Int) (hb : bulkT tLI x0 ≤ 1048576) : f_laws_FnExactFreshValue x0 = some true := by
  have hs := small_of tLI x0 hb
  have hl : x0.length ≤ 1048576 := small_len hs
  rw [f_laws_FnExactFreshValue_eq]
  have h0 : ¬ ((x0.length : Int) > 1048576) := by omega
  obtain ⟨h1, r, hr⟩ := freshValue_same x0 (by omega)
  simp only [h0, decide_false, cond_false, to_IntS _ hs, Option.bind_some, h1, hr, eq_IntS _ hs]
  simp

namespace fnExactFreshValue
open Go.ChangeShapes Go.WideShapes Go.ChangeAt Go.RowKit
theorem own : ownKnob Try.prog.godebug = none := by kernel_rfl
theorem bulk (H : Type) : Go.Lf.Bulk H Rows.uptoBulk Rows.uptoBulkAll where
  str s := by simp [Rows.uptoBulk]
  sl e s := by simp [Rows.uptoBulk]
  ag p := by simp [Rows.uptoBulk]
  nil := by simp [Rows.uptoBulkAll]
  cons d r := by simp [Rows.uptoBulkAll]
  one d := by cases d <;> first | (simp [Rows.uptoBulk]) | (rename_i l; cases l <;> simp [Rows.uptoBulk])
theorem hspec (H : Type) : ∀ ds : List (DataW H), ds.length = 1 → Rows.fnExactFreshValueSpec.fn H ds = { results := [.lit (.bool true)], args := ds }
  | [_], _ => rfl
  | [], h => by simp at h
  | _ :: _ :: _, h => by simp at h
theorem contract (H : Type) (enc : TypeId × Value → H) (W : World) (base : Nat) (args : Array Value) (ds gs : List (DataW H)) (before : List MemPlace)
    (hval : ∀ (j : Nat) t v, Try.f6.params[j]? = some t → args[j]? = some v → Value.okWide Try.prog W .any base t v)
    (hW : DataW.Whole enc Try.prog Try.f6.params.toList Rows.fnExactFreshValueSpec.vars false W args.toList ds gs before) (hk : Rows.uptoSmall H (ds ++ gs) = true) :
    Calls Try.prog 6 args W fun e W' => ∃ v, e = .returned v ∧ Rows.fnExactFreshValueSpec.post enc Try.prog Try.f6 false true false false W args v W' :=
  Go.Lf.law_contract (P := Try.prog) (fn := Try.f6) (c := n_laws_FnExactFreshValue) g_laws_FnExactFreshValue (tids := [30]) (τs := [tLI]) (by kernel_rfl) (by kernel_rfl) (by kernel_rfl) (by kernel_rfl)
    (by decide) (by kernel_rfl) (of_decide_eq_true (by kernel_rfl)) (tb := 4) (by kernel_rfl) (by kernel_rfl)
    (s := Rows.fnExactFreshValueSpec) rfl (hspec H) (bulk H) (N := 1048576) (fun l hl hw hb => Go.Lf.law_of_all (N := 1048576) (τs := [tLI]) (f := f_laws_FnExactFreshValue) (b := 0) (fun x0 w0 hb => law_FnExactFreshValue x0 (by omega)) l hl hw (by omega)) W base args ds gs before hval hW (of_decide_eq_true hk)
set_option maxRecDepth 100000 in
theorem lifted (os : Os) (started : os.Started) (H : Type) (enc : TypeId × Value → H) (F : Stop.Interp) :
    ReturnsInHanded {} Try.checked os 6 .any ((Rows.OpenSpec.upto Rows.fnExactFreshValueSpec).pre6 enc Try.prog Try.f6 Rows.fnExactFreshValueUptoRow.domain false) (((Rows.OpenSpec.upto Rows.fnExactFreshValueSpec).at F).post enc Try.prog Try.f6 false true false false) := by
  refine returnsInHanded_of_cond (C := Try.checked) (s := Rows.OpenSpec.upto Rows.fnExactFreshValueSpec) (k := Rows.uptoSmall) rfl own started (by kernel_rfl) Try.func6
    (OpenSpec.witness (enc := enc) (C := Try.checked) (s := Rows.OpenSpec.upto Rows.fnExactFreshValueSpec) (k := Rows.uptoSmall) rfl false ⟨#[], #[.slice none 0 0], []⟩ 8 (by kernel_rfl) (by kernel_rfl) (by kernel_rfl)
      (x := ([.nil], [], [])) (by kernel_rfl) rfl (by kernel_rfl)) ?_
  intro W base args ds gs before hval hW _ hk _
  exact contract H enc W base args ds gs before hval hW hk
theorem over : Rows.fnExactFreshValueUptoRow.holds Try.pinned (Rows.OpenSpec.upto Rows.fnExactFreshValueSpec) :=
  OpenClaim.holds_of_cond 6 Try.f6 rfl rfl rfl rfl rfl rfl rfl ⟨rfl, rfl, rfl, rfl, rfl⟩ rfl rfl rfl rfl rfl (by kernel_rfl) Try.func6 (by kernel_rfl)
    (of_decide_eq_true (by kernel_rfl)) (by unfold Func.isWrapper; first | (rw [if_pos (by decide +kernel)]; kernel_rfl) | (rw [if_neg (by decide +kernel)]; exact ⟨rfl, rfl⟩))
    (fun os started H enc _ F => lifted os started H enc F)
theorem proved : Rows.FnExactFreshValueUptoSaid :=
  over
end fnExactFreshValue
end Go.Proofs.Ytgabgcogeedclaa
