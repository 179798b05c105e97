/- FnExactIsWindow answers true at every input of bulk at most 1048576: both functions compute the same. Conditions: none beyond the statement. -/
import Derived.Test.YtgabgcogeedclaaRows
import Derived.Test.YtgabgcogeedclaaFa
import Derived.WalkKit
import Derived.ProofKit
import Derived.OpenShut
import Derived.JoinedCond
set_option linter.unusedVariables false
namespace Go.Proofs.Ytgabgcogeedclaa
open Go.Lf
theorem within_eq : f_spec_l1In = f_impl_within := by
  funext a b c
  rw [f_spec_l1In_eq, f_impl_within_eq]
theorem isWindow_eq : f_spec_IsWindow = f_impl_IsWindow := by
  funext x
  rw [f_spec_IsWindow_eq, f_impl_IsWindow_eq, within_eq]
theorem within_val (a b c : Int) : f_impl_within a b c = some (decide (b ≤ a) && decide (a ≤ c)) := by
  rw [f_impl_within_eq]
  by_cases h : a ≥ b
  · have h' : b ≤ a := h
    simp [h']
  · have h' : ¬ b ≤ a := h
    simp [h']
theorem isWindow_val (x : Int × Int) : f_impl_IsWindow x = some ((decide (1 ≤ x.1) && decide (x.1 ≤ 100)) && (decide (1 ≤ x.2) && decide (x.2 ≤ 99))) := by
  rw [f_impl_IsWindow_eq, within_val]
  simp only [Option.bind_some]
  cases decide (1 ≤ x.1) && decide (x.1 ≤ 100) <;> simp [within_val]

theorem law_FnExactIsWindow (x0 : Int × Int) : f_laws_FnExactIsWindow x0 = some true := by
  rw [f_laws_FnExactIsWindow_eq, f_laws_toWindow_eq, isWindow_eq]
  simp [isWindow_val]

namespace fnExactIsWindow
open Go.ChangeShapes Go.WideShapes Go.ChangeAt Go.RowKit
theorem own : ownKnob Try.prog.godebug = none := by kernel_rfl
theorem bulk (H : Type) : Go.Lf.Bulk H Rows.uptoBulk Rows.uptoBulkAll where
  str s := by simp [Rows.uptoBulk]
  sl e s := by simp [Rows.uptoBulk]
  ag p := by simp [Rows.uptoBulk]
  nil := by simp [Rows.uptoBulkAll]
  cons d r := by simp [Rows.uptoBulkAll]
  one d := by cases d <;> first | (simp [Rows.uptoBulk]) | (rename_i l; cases l <;> simp [Rows.uptoBulk])
theorem hspec (H : Type) : ∀ ds : List (DataW H), ds.length = 1 → Rows.fnExactIsWindowSpec.fn H ds = { results := [.lit (.bool true)], args := ds }
  | [_], _ => rfl
  | [], h => by simp at h
  | _ :: _ :: _, h => by simp at h
theorem contract (H : Type) (enc : TypeId × Value → H) (W : World) (base : Nat) (args : Array Value) (ds gs : List (DataW H)) (before : List MemPlace)
    (hval : ∀ (j : Nat) t v, Try.f3.params[j]? = some t → args[j]? = some v → Value.okWide Try.prog W .any base t v)
    (hW : DataW.Whole enc Try.prog Try.f3.params.toList Rows.fnExactIsWindowSpec.vars false W args.toList ds gs before) (hk : Rows.uptoSmall H (ds ++ gs) = true) :
    Calls Try.prog 3 args W fun e W' => ∃ v, e = .returned v ∧ Rows.fnExactIsWindowSpec.post enc Try.prog Try.f3 false true false false W args v W' :=
  Go.Lf.law_contract (P := Try.prog) (fn := Try.f3) (c := n_laws_FnExactIsWindow) g_laws_FnExactIsWindow (tids := [23]) (τs := [t1]) (by kernel_rfl) (by kernel_rfl) (by kernel_rfl) (by kernel_rfl)
    (by decide) (by kernel_rfl) (of_decide_eq_true (by kernel_rfl)) (tb := 4) (by kernel_rfl) (by kernel_rfl)
    (s := Rows.fnExactIsWindowSpec) rfl (hspec H) (bulk H) (N := 1048576) (fun l hl hw hb => Go.Lf.law_of_all (N := 1048576) (τs := [t1]) (f := f_laws_FnExactIsWindow) (b := 0) (fun x0 w0 hb => law_FnExactIsWindow x0) l hl hw (by omega)) W base args ds gs before hval hW (of_decide_eq_true hk)
set_option maxRecDepth 100000 in
theorem lifted (os : Os) (started : os.Started) (H : Type) (enc : TypeId × Value → H) (F : Stop.Interp) :
    ReturnsInHanded {} Try.checked os 3 .any ((Rows.OpenSpec.upto Rows.fnExactIsWindowSpec).pre6 enc Try.prog Try.f3 Rows.fnExactIsWindowUptoRow.domain false) (((Rows.OpenSpec.upto Rows.fnExactIsWindowSpec).at F).post enc Try.prog Try.f3 false true false false) := by
  refine returnsInHanded_of_cond (C := Try.checked) (s := Rows.OpenSpec.upto Rows.fnExactIsWindowSpec) (k := Rows.uptoSmall) rfl own started (by kernel_rfl) Try.func3
    (OpenSpec.witness (enc := enc) (C := Try.checked) (s := Rows.OpenSpec.upto Rows.fnExactIsWindowSpec) (k := Rows.uptoSmall) rfl false ⟨#[], #[.agg #[.int .i64 0, .int .i64 0]], []⟩ 8 (by kernel_rfl) (by kernel_rfl) (by kernel_rfl)
      (x := ([.agg [.lit (.int .i64 0), .lit (.int .i64 0)]], [], [])) (by kernel_rfl) rfl (by kernel_rfl)) ?_
  intro W base args ds gs before hval hW _ hk _
  exact contract H enc W base args ds gs before hval hW hk
theorem over : Rows.fnExactIsWindowUptoRow.holds Try.pinned (Rows.OpenSpec.upto Rows.fnExactIsWindowSpec) :=
  OpenClaim.holds_of_cond 3 Try.f3 rfl rfl rfl rfl rfl rfl rfl ⟨rfl, rfl, rfl, rfl, rfl⟩ rfl rfl rfl rfl rfl (by kernel_rfl) Try.func3 (by kernel_rfl)
    (of_decide_eq_true (by kernel_rfl)) (by unfold Func.isWrapper; first | (rw [if_pos (by decide +kernel)]; kernel_rfl) | (rw [if_neg (by decide +kernel)]; exact ⟨rfl, rfl⟩))
    (fun os started H enc _ F => lifted os started H enc F)
theorem proved : Rows.FnExactIsWindowUptoSaid :=
  over
end fnExactIsWindow
end Go.Proofs.Ytgabgcogeedclaa
