/- FnExactIsKept answers true at every input of bulk at most 1048576: both functions compute the same. Conditions: none beyond the statement. -/
import Derived.Test.YtgabgcogeedclaaRows
import Derived.Test.YtgabgcogeedclaaFa
import Derived.WalkKit
import Derived.ProofKit
import Derived.OpenShut
import Derived.JoinedCond
set_option linter.unusedVariables false
set_option linter.unusedSimpArgs false
namespace Go.Proofs.Ytgabgcogeedclaa
open Go.Lf
theorem to_IntS (x : (List Int)) (h : SmallT tLI x) : f_laws_toIntS x = some x := by
  have hl : x.length ≤ 1048576 := small_len h
  rw [f_laws_toIntS_eq, mkOk_of (by omega)]
  have := scan_copy (xs := x) (g := id) (z := (0 : Int)) (L := fun i s => l1_laws_toIntS x s i) (by omega) (fun s => by rw [l1_laws_toIntS_eq]; simp) (fun i a s hat hlt hw hs hb => by
    obtain ⟨b, hb⟩ := hb
    rw [l1_laws_toIntS_eq]
    simp only [hat, hlt, hw, hb, cond_true, Option.bind_some, Int.toNat_natCast, id])
  simpa using this
theorem to_Window (x : (Int × Int)) (h : SmallT tPII x) : f_laws_toWindow x = some x := by
  simp only [f_laws_toWindow_eq, Option.bind_some]
theorem eq_IntS (x : (List Int)) (h : SmallT tLI x) : f_laws_eqIntS x x = some true := by
  have hl : x.length ≤ 1048576 := small_len h
  rw [f_laws_eqIntS_eq]
  have := all_loop (xs := x) (L := fun i => l1_laws_eqIntS x x i) (p := fun _ => true) (by omega) (by rw [l1_laws_eqIntS_eq]; simp) (fun i a ha hat hlt hw => by
    rw [l1_laws_eqIntS_eq]
    simp only [hat, hlt, hw, cond_true, Option.bind_some]; simp)
  simpa [all_true] using this
theorem within_eq : f_spec_l1In = f_impl_within := by
  funext a b c
  rw [f_spec_l1In_eq, f_impl_within_eq]
theorem isWindow_eq : f_spec_IsWindow = f_impl_IsWindow := by
  funext x
  rw [f_spec_IsWindow_eq, f_impl_IsWindow_eq, within_eq]
theorem within_val (a b c : Int) : f_impl_within a b c = some (decide (b ≤ a) && decide (a ≤ c)) := by
  rw [f_impl_within_eq]
  by_cases h : a ≥ b
  · have h' : b ≤ a := h
    simp [h']
  · have h' : ¬ b ≤ a := h
    simp [h']
theorem isWindow_val (x : Int × Int) : f_impl_IsWindow x = some ((decide (1 ≤ x.1) && decide (x.1 ≤ 100)) && (decide (1 ≤ x.2) && decide (x.2 ≤ 99))) := by
  rw [f_impl_IsWindow_eq, within_val]
  simp only [Option.bind_some]
  cases decide (1 ≤ x.1) && decide (x.1 ≤ 100) <;> simp [within_val]

def inSpan (a w s : Int) : Bool := (decide (a ≥ s) && decide (IntKind.wrap .i64 (a - s) < w)) && decide (s ≥ 0)
theorem bit_val (b : Bool) : f_impl_bit b = some (bif b then 1 else 0) := by
  rw [f_impl_bit_eq]; cases b <;> rfl
theorem spec_callsIn_val (x : List Int) (s w : Int) (h : x.length < 4611686018427387904) : f_spec_CallsIn x s w = some (x.countP (fun a => inSpan a w s) : Int) := by
  rw [f_spec_CallsIn_eq]
  exact count_loop (xs := x) (L := fun i c => l1_spec_CallsIn x s w c i) (p := fun a => inSpan a w s) (f := some) h (fun c => by rw [l1_spec_CallsIn_eq]; simp) (fun i a c hm hat hlt hw h0 h1 => by
    rw [l1_spec_CallsIn_eq, l2_spec_CallsIn_eq, l2_spec_CallsIn_eq]
    simp only [hat, hlt, hw, cond_true, Option.bind_some]
    rw [wr (x := c + 1) (by omega) (by omega)]
    unfold inSpan
    by_cases c1 : a ≥ s
    · by_cases c2 : IntKind.wrap .i64 (a - s) < w
      · by_cases c3 : s ≥ 0
        · have c4 : a ≥ 0 := by omega
          simp [c1, c2, c3, c4]
        · simp [c1, c2, c3]
          try (split <;> simp)
      · simp [c1, c2]
    · simp [c1])
theorem impl_callsIn_val (x : List Int) (s w : Int) (h : x.length < 4611686018427387904) : f_impl_CallsIn x s w = some (x.countP (fun a => inSpan a w s) : Int) := by
  rw [f_impl_CallsIn_eq]
  exact count_loop (xs := x) (L := fun i c => l1_impl_CallsIn s w c x (x.length : Int) i) (p := fun a => inSpan a w s) (f := some) h (fun c => by rw [l1_impl_CallsIn_eq]; simp) (fun i a c hm hat hlt hw h0 h1 => by
    rw [l1_impl_CallsIn_eq]
    simp only [hat, hlt, hw, cond_true, Option.bind_some, bit_val]
    have e : ∀ b : Bool, IntKind.wrap .i64 (c + (bif b then 1 else 0)) = bif b then c + 1 else c := by
      intro b; cases b
      · simp only [cond_false]; rw [wr (by omega) (by omega)]; omega
      · simp only [cond_true]; exact wr (by omega) (by omega)
    unfold inSpan
    by_cases c3 : s ≥ 0
    · by_cases c1 : a ≥ s
      · simp [c1, c3, e]
      · simp [c1, c3, e]
    · simp [c3, e])

def timeOk (a : Int) : Bool := decide (0 ≤ a) && decide (a ≤ 10000)
theorem isTime_val (a : Int) : f_impl_isTime a = some (timeOk a) := by
  rw [f_impl_isTime_eq, within_val]; rfl
/-- One place of the loops. -/
def keptAt (x : List Int) (i : Nat) (a : Int) : Bool := timeOk a && !(decide (0 < i) && decide (a < (x[i - 1]?).getD 0))
theorem before_val {x : List Int} (h : x.length < 4611686018427387904) {i : Nat} {a : Int} (hlt : decide ((i : Int) < (x.length : Int)) = true) : (bif decide ((i : Int) > 0) then (at? x (IntKind.wrap .i64 ((i : Int) - 1))).bind fun z => some (decide (a < z)) else some false) = some (decide (0 < i) && decide (a < (x[i - 1]?).getD 0)) := by
  have hl : i < x.length := by simpa using hlt
  cases i with
  | zero => rfl
  | succ i =>
    have e : IntKind.wrap .i64 (((i + 1 : Nat) : Int) - 1) = (i : Int) := by rw [wr (by omega) (by omega)]; omega
    rw [e, at_nat]
    have : x[i]? = some x[i] := List.getElem?_eq_getElem (by omega)
    have h1 : ((i + 1 : Nat) : Int) > 0 := by omega
    simp [this, h1]
theorem l18Times_val (x : List Int) (h : x.length < 4611686018427387904) : f_spec_l18Times x = some (allIx (keptAt x) x && decide ((x.length : Int) ≤ 1000)) := by
  rw [f_spec_l18Times_eq]
  exact allIx_loop (xs := x) (L := fun i => l1_spec_l18Times x i) (p := keptAt x) h (by rw [l1_spec_l18Times_eq]; simp) (fun i a hm hat hlt hw => by
    rw [l1_spec_l18Times_eq]
    simp only [hat, hlt, hw, cond_true, Option.bind_some, within_eq, within_val, before_val h hlt]
    unfold keptAt timeOk
    by_cases c1 : 0 ≤ a ∧ a ≤ 10000
    · simp only [c1, decide_true, Bool.and_self, Bool.not_true, cond_false, Option.bind_some, Bool.true_and]
      cases (decide (0 < i) && decide (a < (x[i - 1]?).getD 0)) <;> rfl
    · have : (decide (0 ≤ a) && decide (a ≤ 10000)) = false := by rw [Bool.and_eq_false_iff]; simp only [decide_eq_false_iff_not]; omega
      simp [this])
def winOk (w : Int × Int) : Bool := (decide (1 ≤ w.1) && decide (w.1 ≤ 100)) && (decide (1 ≤ w.2) && decide (w.2 ≤ 99))
def callsOk (x : List Int) (w : Int × Int) (a : Int) : Bool := !decide ((x.countP (fun b => inSpan b w.1 a) : Int) > w.2)
theorem spec_isKept_val (x : List Int) (w : Int × Int) (h : x.length < 4611686018427387904) : f_spec_IsKept x w = some ((allIx (keptAt x) x && decide ((x.length : Int) ≤ 1000)) && winOk w && x.all (callsOk x w)) := by
  rw [f_spec_IsKept_eq, l18Times_val x h, isWindow_eq, isWindow_val]
  have := all_loop (xs := x) (L := fun i => l1_spec_IsKept x w.1 w.2 i) (p := callsOk x w) h (by rw [l1_spec_IsKept_eq]; simp) (fun i a hm hat hlt hw => by
    rw [l1_spec_IsKept_eq]
    simp only [hat, hlt, hw, cond_true, Option.bind_some, spec_callsIn_val _ _ _ h]
    unfold callsOk
    cases decide ((x.countP (fun b => inSpan b w.1 a) : Int) > w.2) <;> rfl)
  simp only [Option.bind_some, this]
  rw [show ((decide (1 ≤ w.1) && decide (w.1 ≤ 100)) && (decide (1 ≤ w.2) && decide (w.2 ≤ 99))) = winOk w from rfl]
  cases (allIx (keptAt x) x && decide ((x.length : Int) ≤ 1000)) <;> cases winOk w <;> simp
theorem impl_isKept_val (x : List Int) (w : Int × Int) (h : x.length < 4611686018427387904) : f_impl_IsKept x w = some (decide ((x.length : Int) ≤ 1000) && winOk w && (allIx (keptAt x) x && x.all (callsOk x w))) := by
  rw [f_impl_IsKept_eq, isWindow_val]
  have := allIx_loop (xs := x) (L := fun i => l1_impl_IsKept x w.1 w.2 x (x.length : Int) i) (p := fun i a => keptAt x i a && callsOk x w a) (d := true) h (by rw [l1_impl_IsKept_eq]; simp) (fun i a hm hat hlt hw => by
    rw [l1_impl_IsKept_eq]
    simp only [hat, hlt, hw, cond_true, Option.bind_some, impl_callsIn_val _ _ _ h, before_val h hlt, isTime_val]
    unfold callsOk keptAt
    cases timeOk a <;> cases (decide (0 < i) && decide (a < (x[i - 1]?).getD 0)) <;> cases decide ((x.countP (fun b => inSpan b w.1 a) : Int) > w.2) <;> rfl)
  simp only [allIx_and, Bool.and_true] at this
  rw [allIx_all (p := callsOk x w)] at this
  simp only [Option.bind_some, this]
  rw [show ((decide (1 ≤ w.1) && decide (w.1 ≤ 100)) && (decide (1 ≤ w.2) && decide (w.2 ≤ 99))) = winOk w from rfl]
  by_cases hl : (x.length : Int) ≤ 1000
  · have : ¬ (x.length : Int) > 1000 := by omega
    simp only [hl, this]
    cases winOk w <;> simp
  · have : (x.length : Int) > 1000 := by omega
    simp [hl, this]
theorem isKept_same (x : List Int) (w : Int × Int) (h : x.length < 4611686018427387904) : f_spec_IsKept x w = f_impl_IsKept x w := by
  rw [spec_isKept_val x w h, impl_isKept_val x w h]
  congr 1
  cases decide ((x.length : Int) ≤ 1000) <;> cases winOk w <;> cases allIx (keptAt x) x <;> simp

theorem law_FnExactIsKept (x0 : List Int) (x1 : Int × Int) (hb : bulkT tLI x0 ≤ 1048576) : f_laws_FnExactIsKept x0 x1 = some true := by
  have hs := small_of tLI x0 hb
  have hl : x0.length ≤ 1048576 := small_len hs
  rw [f_laws_FnExactIsKept_eq]
  have h0 : ¬ ((x0.length : Int) > 1048576) := by omega
  simp only [h0, decide_false, cond_false, to_IntS _ hs, f_laws_toWindow_eq, Option.bind_some, isKept_same x0 x1 (by omega), eq_IntS _ hs, impl_isKept_val x0 x1 (by omega)]
  simp

namespace fnExactIsKept
open Go.ChangeShapes Go.WideShapes Go.ChangeAt Go.RowKit
theorem own : ownKnob Try.prog.godebug = none := by kernel_rfl
theorem bulk (H : Type) : Go.Lf.Bulk H Rows.uptoBulk Rows.uptoBulkAll where
  str s := by simp [Rows.uptoBulk]
  sl e s := by simp [Rows.uptoBulk]
  ag p := by simp [Rows.uptoBulk]
  nil := by simp [Rows.uptoBulkAll]
  cons d r := by simp [Rows.uptoBulkAll]
  one d := by cases d <;> first | (simp [Rows.uptoBulk]) | (rename_i l; cases l <;> simp [Rows.uptoBulk])
theorem hspec (H : Type) : ∀ ds : List (DataW H), ds.length = 2 → Rows.fnExactIsKeptSpec.fn H ds = { results := [.lit (.bool true)], args := ds }
  | [_, _], _ => rfl
  | [], h => by simp at h
  | [_], h => by simp at h
  | _ :: _ :: _ :: _, h => by simp at h
theorem contract (H : Type) (enc : TypeId × Value → H) (W : World) (base : Nat) (args : Array Value) (ds gs : List (DataW H)) (before : List MemPlace)
    (hval : ∀ (j : Nat) t v, Try.f7.params[j]? = some t → args[j]? = some v → Value.okWide Try.prog W .any base t v)
    (hW : DataW.Whole enc Try.prog Try.f7.params.toList Rows.fnExactIsKeptSpec.vars false W args.toList ds gs before) (hk : Rows.uptoSmall H (ds ++ gs) = true) :
    Calls Try.prog 7 args W fun e W' => ∃ v, e = .returned v ∧ Rows.fnExactIsKeptSpec.post enc Try.prog Try.f7 false true false false W args v W' :=
  Go.Lf.law_contract (P := Try.prog) (fn := Try.f7) (c := n_laws_FnExactIsKept) g_laws_FnExactIsKept (tids := [30, 23]) (τs := [tLI, tPII]) (by kernel_rfl) (by kernel_rfl) (by kernel_rfl) (by kernel_rfl)
    (by decide) (by kernel_rfl) (of_decide_eq_true (by kernel_rfl)) (tb := 4) (by kernel_rfl) (by kernel_rfl)
    (s := Rows.fnExactIsKeptSpec) rfl (hspec H) (bulk H) (N := 1048576) (fun l hl hw hb => Go.Lf.law_of_all (N := 1048576) (τs := [tLI, tPII]) (f := f_laws_FnExactIsKept) (b := 0) (fun x0 w0 x1 w1 hb => law_FnExactIsKept x0 x1 (by omega)) l hl hw (by omega)) W base args ds gs before hval hW (of_decide_eq_true hk)
set_option maxRecDepth 100000 in
theorem lifted (os : Os) (started : os.Started) (H : Type) (enc : TypeId × Value → H) (F : Stop.Interp) :
    ReturnsInHanded {} Try.checked os 7 .any ((Rows.OpenSpec.upto Rows.fnExactIsKeptSpec).pre6 enc Try.prog Try.f7 Rows.fnExactIsKeptUptoRow.domain false) (((Rows.OpenSpec.upto Rows.fnExactIsKeptSpec).at F).post enc Try.prog Try.f7 false true false false) := by
  refine returnsInHanded_of_cond (C := Try.checked) (s := Rows.OpenSpec.upto Rows.fnExactIsKeptSpec) (k := Rows.uptoSmall) rfl own started (by kernel_rfl) Try.func7
    (OpenSpec.witness (enc := enc) (C := Try.checked) (s := Rows.OpenSpec.upto Rows.fnExactIsKeptSpec) (k := Rows.uptoSmall) rfl false ⟨#[], #[.slice none 0 0, .agg #[.int .i64 0, .int .i64 0]], []⟩ 8 (by kernel_rfl) (by kernel_rfl) (by kernel_rfl)
      (x := ([.nil, .agg [.lit (.int .i64 0), .lit (.int .i64 0)]], [], [])) (by kernel_rfl) rfl (by kernel_rfl)) ?_
  intro W base args ds gs before hval hW _ hk _
  exact contract H enc W base args ds gs before hval hW hk
theorem over : Rows.fnExactIsKeptUptoRow.holds Try.pinned (Rows.OpenSpec.upto Rows.fnExactIsKeptSpec) :=
  OpenClaim.holds_of_cond 7 Try.f7 rfl rfl rfl rfl rfl rfl rfl ⟨rfl, rfl, rfl, rfl, rfl⟩ rfl rfl rfl rfl rfl (by kernel_rfl) Try.func7 (by kernel_rfl)
    (of_decide_eq_true (by kernel_rfl)) (by unfold Func.isWrapper; first | (rw [if_pos (by decide +kernel)]; kernel_rfl) | (rw [if_neg (by decide +kernel)]; exact ⟨rfl, rfl⟩))
    (fun os started H enc _ F => lifted os started H enc F)
theorem proved : Rows.FnExactIsKeptUptoSaid :=
  over
end fnExactIsKept
end Go.Proofs.Ytgabgcogeedclaa
