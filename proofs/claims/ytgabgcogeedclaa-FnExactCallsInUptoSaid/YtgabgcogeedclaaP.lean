/- FnExactCallsIn answers true at every input of bulk at most 1048576: both functions compute the same. Conditions: none beyond the statement. -/
import Derived.Test.YtgabgcogeedclaaRows
import Derived.Test.YtgabgcogeedclaaFa
import Derived.WalkKit
import Derived.ProofKit
import Derived.OpenShut
import Derived.JoinedCond
set_option linter.unusedVariables false
set_option linter.unusedSimpArgs false
namespace Go.Proofs.Ytgabgcogeedclaa
open Go.Lf
theorem to_IntS (x : (List Int)) (h : SmallT tLI x) : f_laws_toIntS x = some x := by
  have hl : x.length ≤ 1048576 := small_len h
  rw [f_laws_toIntS_eq, mkOk_of (by omega)]
  have := scan_copy (xs := x) (g := id) (z := (0 : Int)) (L := fun i s => l1_laws_toIntS x s i) (by omega) (fun s => by rw [l1_laws_toIntS_eq]; simp) (fun i a s hat hlt hw hs hb => by
    obtain ⟨b, hb⟩ := hb
    rw [l1_laws_toIntS_eq]
    simp only [hat, hlt, hw, hb, cond_true, Option.bind_some, Int.toNat_natCast, id])
  simpa using this
theorem eq_IntS (x : (List Int)) (h : SmallT tLI x) : f_laws_eqIntS x x = some true := by
  have hl : x.length ≤ 1048576 := small_len h
  rw [f_laws_eqIntS_eq]
  have := all_loop (xs := x) (L := fun i => l1_laws_eqIntS x x i) (p := fun _ => true) (by omega) (by rw [l1_laws_eqIntS_eq]; simp) (fun i a ha hat hlt hw => by
    rw [l1_laws_eqIntS_eq]
    simp only [hat, hlt, hw, cond_true, Option.bind_some]; simp)
  simpa [all_true] using this
def inSpan (a w s : Int) : Bool := (decide (a ≥ s) && decide (IntKind.wrap .i64 (a - s) < w)) && decide (s ≥ 0)
theorem bit_val (b : Bool) : f_impl_bit b = some (bif b then 1 else 0) := by
  rw [f_impl_bit_eq]; cases b <;> rfl
theorem spec_callsIn_val (x : List Int) (s w : Int) (h : x.length < 4611686018427387904) : f_spec_CallsIn x s w = some (x.countP (fun a => inSpan a w s) : Int) := by
  rw [f_spec_CallsIn_eq]
  exact count_loop (xs := x) (L := fun i c => l1_spec_CallsIn x s w c i) (p := fun a => inSpan a w s) (f := some) h (fun c => by rw [l1_spec_CallsIn_eq]; simp) (fun i a c hm hat hlt hw h0 h1 => by
    rw [l1_spec_CallsIn_eq, l2_spec_CallsIn_eq, l2_spec_CallsIn_eq]
    simp only [hat, hlt, hw, cond_true, Option.bind_some]
    rw [wr (x := c + 1) (by omega) (by omega)]
    unfold inSpan
    by_cases c1 : a ≥ s
    · by_cases c2 : IntKind.wrap .i64 (a - s) < w
      · by_cases c3 : s ≥ 0
        · have c4 : a ≥ 0 := by omega
          simp [c1, c2, c3, c4]
        · simp [c1, c2, c3]
          try (split <;> simp)
      · simp [c1, c2]
    · simp [c1])
theorem impl_callsIn_val (x : List Int) (s w : Int) (h : x.length < 4611686018427387904) : f_impl_CallsIn x s w = some (x.countP (fun a => inSpan a w s) : Int) := by
  rw [f_impl_CallsIn_eq]
  exact count_loop (xs := x) (L := fun i c => l1_impl_CallsIn s w c x (x.length : Int) i) (p := fun a => inSpan a w s) (f := some) h (fun c => by rw [l1_impl_CallsIn_eq]; simp) (fun i a c hm hat hlt hw h0 h1 => by
    rw [l1_impl_CallsIn_eq]
    simp only [hat, hlt, hw, cond_true, Option.bind_some, bit_val]
    have e : ∀ b : Bool, IntKind.wrap .i64 (c + (bif b then 1 else 0)) = bif b then c + 1 else c := by
      intro b; cases b
      · simp only [cond_false]; rw [wr (by omega) (by omega)]; omega
      · simp only [cond_true]; exact wr (by omega) (by omega)
    unfold inSpan
    by_cases c3 : s ≥ 0
    · by_cases c1 : a ≥ s
      · simp [c1, c3, e]
      · simp [c1, c3, e]
    · simp [c3, e])

theorem law_FnExactCallsIn (x0 : List Int) (x1 x2 : Int) (hb : bulkT tLI x0 ≤ 1048576) : f_laws_FnExactCallsIn x0 x1 x2 = some true := by
  have hs := small_of tLI x0 hb
  have hl : x0.length ≤ 1048576 := small_len hs
  rw [f_laws_FnExactCallsIn_eq]
  have h0 : ¬ ((x0.length : Int) > 1048576) := by omega
  simp only [h0, decide_false, cond_false, to_IntS _ hs, Option.bind_some, spec_callsIn_val _ _ _ (show x0.length < 4611686018427387904 by omega), impl_callsIn_val _ _ _ (show x0.length < 4611686018427387904 by omega), eq_IntS _ hs]
  simp

namespace fnExactCallsIn
open Go.ChangeShapes Go.WideShapes Go.ChangeAt Go.RowKit
theorem own : ownKnob Try.prog.godebug = none := by kernel_rfl
theorem bulk (H : Type) : Go.Lf.Bulk H Rows.uptoBulk Rows.uptoBulkAll where
  str s := by simp [Rows.uptoBulk]
  sl e s := by simp [Rows.uptoBulk]
  ag p := by simp [Rows.uptoBulk]
  nil := by simp [Rows.uptoBulkAll]
  cons d r := by simp [Rows.uptoBulkAll]
  one d := by cases d <;> first | (simp [Rows.uptoBulk]) | (rename_i l; cases l <;> simp [Rows.uptoBulk])
theorem hspec (H : Type) : ∀ ds : List (DataW H), ds.length = 3 → Rows.fnExactCallsInSpec.fn H ds = { results := [.lit (.bool true)], args := ds }
  | [_, _, _], _ => rfl
  | [], h => by simp at h
  | [_], h => by simp at h
  | [_, _], h => by simp at h
  | _ :: _ :: _ :: _ :: _, h => by simp at h
theorem contract (H : Type) (enc : TypeId × Value → H) (W : World) (base : Nat) (args : Array Value) (ds gs : List (DataW H)) (before : List MemPlace)
    (hval : ∀ (j : Nat) t v, Try.f5.params[j]? = some t → args[j]? = some v → Value.okWide Try.prog W .any base t v)
    (hW : DataW.Whole enc Try.prog Try.f5.params.toList Rows.fnExactCallsInSpec.vars false W args.toList ds gs before) (hk : Rows.uptoSmall H (ds ++ gs) = true) :
    Calls Try.prog 5 args W fun e W' => ∃ v, e = .returned v ∧ Rows.fnExactCallsInSpec.post enc Try.prog Try.f5 false true false false W args v W' :=
  Go.Lf.law_contract (P := Try.prog) (fn := Try.f5) (c := n_laws_FnExactCallsIn) g_laws_FnExactCallsIn (tids := [30, 3, 3]) (τs := [tLI, tI, tI]) (by kernel_rfl) (by kernel_rfl) (by kernel_rfl) (by kernel_rfl)
    (by decide) (by kernel_rfl) (of_decide_eq_true (by kernel_rfl)) (tb := 4) (by kernel_rfl) (by kernel_rfl)
    (s := Rows.fnExactCallsInSpec) rfl (hspec H) (bulk H) (N := 1048576) (fun l hl hw hb => Go.Lf.law_of_all (N := 1048576) (τs := [tLI, tI, tI]) (f := f_laws_FnExactCallsIn) (b := 0) (fun x0 w0 x1 w1 x2 w2 hb => law_FnExactCallsIn x0 x1 x2 (by omega)) l hl hw (by omega)) W base args ds gs before hval hW (of_decide_eq_true hk)
set_option maxRecDepth 100000 in
theorem lifted (os : Os) (started : os.Started) (H : Type) (enc : TypeId × Value → H) (F : Stop.Interp) :
    ReturnsInHanded {} Try.checked os 5 .any ((Rows.OpenSpec.upto Rows.fnExactCallsInSpec).pre6 enc Try.prog Try.f5 Rows.fnExactCallsInUptoRow.domain false) (((Rows.OpenSpec.upto Rows.fnExactCallsInSpec).at F).post enc Try.prog Try.f5 false true false false) := by
  refine returnsInHanded_of_cond (C := Try.checked) (s := Rows.OpenSpec.upto Rows.fnExactCallsInSpec) (k := Rows.uptoSmall) rfl own started (by kernel_rfl) Try.func5
    (OpenSpec.witness (enc := enc) (C := Try.checked) (s := Rows.OpenSpec.upto Rows.fnExactCallsInSpec) (k := Rows.uptoSmall) rfl false ⟨#[], #[.slice none 0 0, .int .i64 0, .int .i64 0], []⟩ 8 (by kernel_rfl) (by kernel_rfl) (by kernel_rfl)
      (x := ([.nil, .lit (.int .i64 0), .lit (.int .i64 0)], [], [])) (by kernel_rfl) rfl (by kernel_rfl)) ?_
  intro W base args ds gs before hval hW _ hk _
  exact contract H enc W base args ds gs before hval hW hk
theorem over : Rows.fnExactCallsInUptoRow.holds Try.pinned (Rows.OpenSpec.upto Rows.fnExactCallsInSpec) :=
  OpenClaim.holds_of_cond 5 Try.f5 rfl rfl rfl rfl rfl rfl rfl ⟨rfl, rfl, rfl, rfl, rfl⟩ rfl rfl rfl rfl rfl (by kernel_rfl) Try.func5 (by kernel_rfl)
    (of_decide_eq_true (by kernel_rfl)) (by unfold Func.isWrapper; first | (rw [if_pos (by decide +kernel)]; kernel_rfl) | (rw [if_neg (by decide +kernel)]; exact ⟨rfl, rfl⟩))
    (fun os started H enc _ F => lifted os started H enc F)
theorem proved : Rows.FnExactCallsInUptoSaid :=
  over
end fnExactCallsIn
end Go.Proofs.Ytgabgcogeedclaa
