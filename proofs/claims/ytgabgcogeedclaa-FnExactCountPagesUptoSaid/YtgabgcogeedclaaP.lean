/- FnExactCountPages answers true at every input of bulk at most 1048576: both functions compute the same. Conditions: none beyond the statement. -/
import Derived.Test.YtgabgcogeedclaaRows
import Derived.Test.YtgabgcogeedclaaFa
import Derived.WalkKit
import Derived.ProofKit
import Derived.OpenShut
import Derived.JoinedCond
set_option linter.unusedVariables false
set_option linter.unusedSimpArgs false
namespace Go.Proofs.Ytgabgcogeedclaa
open Go.Lf
theorem within_eq : f_spec_l1In = f_impl_within := by
  funext a b c
  rw [f_spec_l1In_eq, f_impl_within_eq]
theorem within_val (a b c : Int) : f_impl_within a b c = some (decide (b ≤ a) && decide (a ≤ c)) := by
  rw [f_impl_within_eq]
  by_cases h : a ≥ b
  · have h' : b ≤ a := h
    simp [h']
  · have h' : ¬ b ≤ a := h
    simp [h']
theorem isPage_val (a : Int) : f_impl_isPage a = some (decide (1 ≤ a) && decide (a ≤ 9)) := by
  rw [f_impl_isPage_eq, within_val]; rfl
theorem countPages_eq (a b : Int) : f_spec_CountPages a b = f_impl_CountPages a b ∧ ∃ r, f_impl_CountPages a b = some r := by
  rw [f_spec_CountPages_eq, f_impl_CountPages_eq, isPage_val, within_eq, within_val, within_val]
  simp only [Option.bind_some]
  by_cases hb : 1 ≤ b ∧ b ≤ 9
  · by_cases ha : 0 ≤ a ∧ a ≤ 1000000
    · have hb0 : b ≠ 0 := by omega
      simp only [hb, ha, decide_true, Bool.and_self, Bool.not_true, cond_false, Option.bind_some, hb0, if_false]
      rw [wr (x := a + b) (by omega) (by omega), wr (x := a + b - 1) (by omega) (by omega)]
      have e : (a + b - 1).tdiv b = (a + b - 1) / b := Int.tdiv_eq_ediv_of_nonneg (by omega)
      rw [e]
      have h0 : 0 ≤ (a + b - 1) / b := Int.ediv_nonneg (by omega) (by omega)
      have h1 : (a + b - 1) / b ≤ a + b - 1 := Int.ediv_le_self b (by omega)
      rw [wr (by omega) (by omega)]
      by_cases hz : a = 0
      · subst hz
        have h2 : (0 + b - 1) / b = 0 := Int.ediv_eq_zero_of_lt (by omega) (by omega)
        rw [h2]; simp
      · have h2 : 1 ≤ (a + b - 1) / b := (Int.le_ediv_iff_mul_le (by omega)).2 (by omega)
        have hz' : (a == 0) = false := by simpa using hz
        simp only [hz', cond_false]
        refine ⟨?_, ⟨_, rfl⟩⟩
        by_cases h3 : 1 < (a + b - 1) / b
        · simp [h3]
        · have : (a + b - 1) / b = 1 := by omega
          simp [this]
    · have : (decide (0 ≤ a) && decide (a ≤ 1000000)) = false := by
        rw [Bool.and_eq_false_iff]; simp only [decide_eq_false_iff_not]; omega
      simp [this, hb]
  · have : (decide (1 ≤ b) && decide (b ≤ 9)) = false := by
      rw [Bool.and_eq_false_iff]; simp only [decide_eq_false_iff_not]; omega
    simp [this]

theorem law_FnExactCountPages (x0 x1 : Int) : f_laws_FnExactCountPages x0 x1 = some true := by
  obtain ⟨h, r, hr⟩ := countPages_eq x0 x1
  rw [f_laws_FnExactCountPages_eq, h, hr]
  simp

namespace fnExactCountPages
open Go.ChangeShapes Go.WideShapes Go.ChangeAt Go.RowKit
theorem own : ownKnob Try.prog.godebug = none := by kernel_rfl
theorem bulk (H : Type) : Go.Lf.Bulk H Rows.uptoBulk Rows.uptoBulkAll where
  str s := by simp [Rows.uptoBulk]
  sl e s := by simp [Rows.uptoBulk]
  ag p := by simp [Rows.uptoBulk]
  nil := by simp [Rows.uptoBulkAll]
  cons d r := by simp [Rows.uptoBulkAll]
  one d := by cases d <;> first | (simp [Rows.uptoBulk]) | (rename_i l; cases l <;> simp [Rows.uptoBulk])
theorem hspec (H : Type) : ∀ ds : List (DataW H), ds.length = 2 → Rows.fnExactCountPagesSpec.fn H ds = { results := [.lit (.bool true)], args := ds }
  | [_, _], _ => rfl
  | [], h => by simp at h
  | [_], h => by simp at h
  | _ :: _ :: _ :: _, h => by simp at h
theorem contract (H : Type) (enc : TypeId × Value → H) (W : World) (base : Nat) (args : Array Value) (ds gs : List (DataW H)) (before : List MemPlace)
    (hval : ∀ (j : Nat) t v, Try.f4.params[j]? = some t → args[j]? = some v → Value.okWide Try.prog W .any base t v)
    (hW : DataW.Whole enc Try.prog Try.f4.params.toList Rows.fnExactCountPagesSpec.vars false W args.toList ds gs before) (hk : Rows.uptoSmall H (ds ++ gs) = true) :
    Calls Try.prog 4 args W fun e W' => ∃ v, e = .returned v ∧ Rows.fnExactCountPagesSpec.post enc Try.prog Try.f4 false true false false W args v W' :=
  Go.Lf.law_contract (P := Try.prog) (fn := Try.f4) (c := n_laws_FnExactCountPages) g_laws_FnExactCountPages (tids := [3, 3]) (τs := [tI, tI]) (by kernel_rfl) (by kernel_rfl) (by kernel_rfl) (by kernel_rfl)
    (by decide) (by kernel_rfl) (of_decide_eq_true (by kernel_rfl)) (tb := 4) (by kernel_rfl) (by kernel_rfl)
    (s := Rows.fnExactCountPagesSpec) rfl (hspec H) (bulk H) (N := 1048576) (fun l hl hw hb => Go.Lf.law_of_all (N := 1048576) (τs := [tI, tI]) (f := f_laws_FnExactCountPages) (b := 0) (fun x0 w0 x1 w1 hb => law_FnExactCountPages x0 x1) l hl hw (by omega)) W base args ds gs before hval hW (of_decide_eq_true hk)
set_option maxRecDepth 100000 in
theorem lifted (os : Os) (started : os.Started) (H : Type) (enc : TypeId × Value → H) (F : Stop.Interp) :
    ReturnsInHanded {} Try.checked os 4 .any ((Rows.OpenSpec.upto Rows.fnExactCountPagesSpec).pre6 enc Try.prog Try.f4 Rows.fnExactCountPagesUptoRow.domain false) (((Rows.OpenSpec.upto Rows.fnExactCountPagesSpec).at F).post enc Try.prog Try.f4 false true false false) := by
  refine returnsInHanded_of_cond (C := Try.checked) (s := Rows.OpenSpec.upto Rows.fnExactCountPagesSpec) (k := Rows.uptoSmall) rfl own started (by kernel_rfl) Try.func4
    (OpenSpec.witness (enc := enc) (C := Try.checked) (s := Rows.OpenSpec.upto Rows.fnExactCountPagesSpec) (k := Rows.uptoSmall) rfl false ⟨#[], #[.int .i64 0, .int .i64 0], []⟩ 8 (by kernel_rfl) (by kernel_rfl) (by kernel_rfl)
      (x := ([.lit (.int .i64 0), .lit (.int .i64 0)], [], [])) (by kernel_rfl) rfl (by kernel_rfl)) ?_
  intro W base args ds gs before hval hW _ hk _
  exact contract H enc W base args ds gs before hval hW hk
theorem over : Rows.fnExactCountPagesUptoRow.holds Try.pinned (Rows.OpenSpec.upto Rows.fnExactCountPagesSpec) :=
  OpenClaim.holds_of_cond 4 Try.f4 rfl rfl rfl rfl rfl rfl rfl ⟨rfl, rfl, rfl, rfl, rfl⟩ rfl rfl rfl rfl rfl (by kernel_rfl) Try.func4 (by kernel_rfl)
    (of_decide_eq_true (by kernel_rfl)) (by unfold Func.isWrapper; first | (rw [if_pos (by decide +kernel)]; kernel_rfl) | (rw [if_neg (by decide +kernel)]; exact ⟨rfl, rfl⟩))
    (fun os started H enc _ F => lifted os started H enc F)
theorem proved : Rows.FnExactCountPagesUptoSaid :=
  over
end fnExactCountPages
end Go.Proofs.Ytgabgcogeedclaa
