/- The functions that FnExactFreshValue reaches, as functions of data, and their texts, part 1 of 1. -/
import Derived.Test.YtgabgcogeedclaaLd
import Derived.KernelRfl
import Derived.Test.YtgabgcogeedclaaProg
set_option linter.unusedVariables false
set_option linter.unusedSimpArgs false
namespace Go.Proofs.Ytgabgcogeedclaa
open Go.Lf
def aT : Ann := ⟨.take, 0, []⟩
def aR : Ann := ⟨.ref, 0, []⟩
def tI : Ty := .int .i64
def tLI : Ty := .slice tI
/- loop.example/g01989/laws.toIntS -/
def s_laws_toIntS : Sig := ⟨16, [.v tLI], [(tLI, [some .sc])]⟩
def a_laws_toIntS : FAnn := ⟨[⟨[(0, ⟨0, [], .va⟩), (15, ⟨0, [], .pl 1 false⟩)], [0]⟩,
    ⟨[(0, ⟨0, [], .va⟩), (15, ⟨0, [], .pl 1 false⟩), (48, ⟨0, [], .ro .sc none⟩), (63, ⟨0, [], .pl 1 false⟩), (64, ⟨0, [], .va⟩), (79, ⟨0, [], .pl 1 false⟩)], [0, 48, 64]⟩],
  (.seq (.reg [aT]) (.seq (.reg [aR, aT, aT, aT]) (.seq (.seq (.reg [aT]) (.block none (.loop 1 (.seq (.seq (.reg [aR, aR, aT, aT]) (.cond none .none .none)) (.seq (.block none (.reg [aR, aR, aR, aR, aT, aT, aT, aT])) (.reg [aR, aT, aT])))))) (.seq (.reg [aR, aT]) .none)))),
  []⟩
def b_laws_toIntS : List (Nat × Tree) := [(0, (.ins (.grp [] [.cp 32 (.c (.nil tI))] .nil) (.ins (.grp [] [.cp 80 (.k 0)] (.grp [] [.len false 96 (.k 80)] (.grp [] [.mk 112 tI (.k 96)] (.grp [] [.cp 48 (.k 112)] .nil)))) (.ins (.grp [] [.cp 64 (.c (.int .i64 (0)))] .nil) (.jump 1 [0, 48, 64]))))),
  (1, (.ins (.grp [] [.cp 128 (.k 64)] (.grp [] [.cp 144 (.k 0)] (.grp [] [.len false 160 (.k 144)] (.grp [] [.bin .lss 176 (.k 128) (.k 160)] .nil)))) (.ite (.k 176) (.ins (.grp [] [.cp 224 (.k 48)] (.grp [] [.cp 240 (.k 64)] (.grp [] [.cp 256 (.k 0)] (.grp [] [.cp 272 (.k 64)] (.grp [] [.idx (some tI) [288] 0 (.k 256) (.k 272)] (.grp [] [.cp 304 (.k 288)] (.grp [] [.chk tI (.k 48) (.k 240)] (.grp [] [.setE 48 (.k 240) 0 [tI] [(.k 304)]] .nil)))))))) (.ins (.grp [] [.cp 192 (.k 64)] (.grp [] [.bin .add 208 (.k 192) (.c (.int .i64 (1)))] (.grp [] [.cp 64 (.k 208)] .nil))) (.jump 1 [0, 48, 64]))) (.ins (.grp [] [.cp 336 (.k 48)] (.grp [] [.cp 32 (.k 48)] .nil)) (.ret [(tLI, [(.k 32)])])))))]
noncomputable def c_laws_toIntS : List Lf.Fn := []
noncomputable def f_laws_toIntS : (List Int) → Option ((List Int)) := tyd [tLI] [tLI] (fnD (DOf c_laws_toIntS) s_laws_toIntS a_laws_toIntS.L b_laws_toIntS)
noncomputable def n_laws_toIntS : Lf.Fn := ⟨s_laws_toIntS, [tLI], [tLI], f_laws_toIntS⟩
noncomputable def l1_laws_toIntS (v0 : (List Int)) (v48 : (List Int)) (v64 : Int) : Option ((List Int)) := (Jl (DOf c_laws_toIntS) (irBlk a_laws_toIntS.L b_laws_toIntS) 1 [⟨tLI, v0⟩, ⟨tLI, v48⟩, ⟨tI, v64⟩]).bind (readOuts [tLI])
theorem k_laws_toIntS : compFn Try.prog (sigsOf c_laws_toIntS) s_laws_toIntS a_laws_toIntS = some b_laws_toIntS := by kernel_rfl
theorem g_laws_toIntS : Lf.Good Try.prog n_laws_toIntS := good_of (by intro _ h; simp [c_laws_toIntS] at h) k_laws_toIntS (by kernel_rfl) ⟨Try.f16, by kernel_rfl, by kernel_rfl, by kernel_rfl⟩ [tLI] [tLI]
theorem f_laws_toIntS_eq (x0 : (List Int)) : f_laws_toIntS x0 =
    bif mkOk (x0.length : Int) then
    l1_laws_toIntS x0 (List.replicate (Int.toNat (x0.length : Int)) (0 : Int)) (0 : Int)
    else none :=
  (show f_laws_toIntS x0 = (Jl (DOf c_laws_toIntS) (irBlk a_laws_toIntS.L b_laws_toIntS) 0 [⟨tLI, x0⟩]).bind (readOuts [tLI]) by kernel_rfl).trans ((Jstep2 (DKOf_eq c_laws_toIntS)).trans (by kernel_rfl))
theorem l1_laws_toIntS_eq (v0 : (List Int)) (v48 : (List Int)) (v64 : Int) : l1_laws_toIntS v0 v48 v64 =
    bif (decide (v64 < (v0.length : Int))) then
      (at? v0 v64).bind fun z1 =>
      (at? v48 v64).bind fun _ =>
      (at? v48 v64).bind fun z2 =>
      l1_laws_toIntS v0 (v48.set (Int.toNat v64) z1) (IntKind.wrap .i64 (v64 + (1 : Int)))
    else
      some v48 :=
  (show l1_laws_toIntS v0 v48 v64 = (Jl (DOf c_laws_toIntS) (irBlk a_laws_toIntS.L b_laws_toIntS) 1 [⟨tLI, v0⟩, ⟨tLI, v48⟩, ⟨tI, v64⟩]).bind (readOuts [tLI]) by kernel_rfl).trans ((Jstep2 (DKOf_eq c_laws_toIntS)).trans (by kernel_rfl))
/- loop.example/g01989/spec.l2Has -/
def s_spec_l2Has : Sig := ⟨37, [.v tLI, .v tI], [(.bool, [none])]⟩
def a_spec_l2Has : FAnn := ⟨[⟨[(0, ⟨0, [], .va⟩), (15, ⟨0, [], .pl 1 false⟩), (16, ⟨0, [], .va⟩), (31, ⟨0, [], .pl 1 false⟩)], [0, 16]⟩,
    ⟨[(0, ⟨0, [], .va⟩), (15, ⟨0, [], .pl 1 false⟩), (16, ⟨0, [], .va⟩), (31, ⟨0, [], .pl 1 false⟩), (80, ⟨0, [], .va⟩), (95, ⟨0, [], .pl 1 false⟩)], [0, 16, 80]⟩],
  (.seq (.reg [aT]) (.seq (.seq (.reg [aT]) (.block none (.loop 1 (.seq (.seq (.reg [aR, aR, aT, aT]) (.cond none .none .none)) (.seq (.block none (.seq (.reg [aR, aR, aT, aT, aR, aT]) (.cond none (.seq (.reg [aT]) .none) .none))) (.reg [aR, aT, aT])))))) (.seq (.reg [aT]) .none))),
  []⟩
def b_spec_l2Has : List (Nat × Tree) := [(0, (.ins (.grp [] [.cp 64 (.c (.bool false))] .nil) (.ins (.grp [] [.cp 80 (.c (.int .i64 (0)))] .nil) (.jump 1 [0, 16, 80])))),
  (1, (.ins (.grp [] [.cp 96 (.k 80)] (.grp [] [.cp 112 (.k 0)] (.grp [] [.len false 128 (.k 112)] (.grp [] [.bin .lss 144 (.k 96) (.k 128)] .nil)))) (.ite (.k 144) (.ins (.grp [] [.cp 192 (.k 0)] (.grp [] [.cp 208 (.k 80)] (.grp [] [.idx (some tI) [224] 0 (.k 192) (.k 208)] (.grp [] [.cp 240 (.k 224)] (.grp [] [.cp 256 (.k 16)] (.grp [] [.bin .eql 272 (.k 240) (.k 256)] .nil)))))) (.ite (.k 272) (.ins (.grp [] [.cp 64 (.c (.bool true))] .nil) (.ret [(.bool, [(.k 64)])])) (.ins (.grp [] [.cp 160 (.k 80)] (.grp [] [.bin .add 176 (.k 160) (.c (.int .i64 (1)))] (.grp [] [.cp 80 (.k 176)] .nil))) (.jump 1 [0, 16, 80])))) (.ins (.grp [] [.cp 64 (.c (.bool false))] .nil) (.ret [(.bool, [(.k 64)])])))))]
noncomputable def c_spec_l2Has : List Lf.Fn := []
noncomputable def f_spec_l2Has : (List Int) → Int → Option (Bool) := tyd [tLI, tI] [.bool] (fnD (DOf c_spec_l2Has) s_spec_l2Has a_spec_l2Has.L b_spec_l2Has)
noncomputable def n_spec_l2Has : Lf.Fn := ⟨s_spec_l2Has, [tLI, tI], [.bool], f_spec_l2Has⟩
noncomputable def l1_spec_l2Has (v0 : (List Int)) (v16 : Int) (v80 : Int) : Option (Bool) := (Jl (DOf c_spec_l2Has) (irBlk a_spec_l2Has.L b_spec_l2Has) 1 [⟨tLI, v0⟩, ⟨tI, v16⟩, ⟨tI, v80⟩]).bind (readOuts [.bool])
theorem k_spec_l2Has : compFn Try.prog (sigsOf c_spec_l2Has) s_spec_l2Has a_spec_l2Has = some b_spec_l2Has := by kernel_rfl
theorem g_spec_l2Has : Lf.Good Try.prog n_spec_l2Has := good_of (by intro _ h; simp [c_spec_l2Has] at h) k_spec_l2Has (by kernel_rfl) ⟨Try.f37, by kernel_rfl, by kernel_rfl, by kernel_rfl⟩ [tLI, tI] [.bool]
theorem f_spec_l2Has_eq (x0 : (List Int)) (x1 : Int) : f_spec_l2Has x0 x1 =
    l1_spec_l2Has x0 x1 (0 : Int) :=
  (show f_spec_l2Has x0 x1 = (Jl (DOf c_spec_l2Has) (irBlk a_spec_l2Has.L b_spec_l2Has) 0 [⟨tLI, x0⟩, ⟨tI, x1⟩]).bind (readOuts [.bool]) by kernel_rfl).trans ((Jstep2 (DKOf_eq c_spec_l2Has)).trans (by kernel_rfl))
theorem l1_spec_l2Has_eq (v0 : (List Int)) (v16 : Int) (v80 : Int) : l1_spec_l2Has v0 v16 v80 =
    bif (decide (v80 < (v0.length : Int))) then
      (at? v0 v80).bind fun z1 =>
      bif (z1 == v16) then
        some true
      else
        l1_spec_l2Has v0 v16 (IntKind.wrap .i64 (v80 + (1 : Int)))
    else
      some false :=
  (show l1_spec_l2Has v0 v16 v80 = (Jl (DOf c_spec_l2Has) (irBlk a_spec_l2Has.L b_spec_l2Has) 1 [⟨tLI, v0⟩, ⟨tI, v16⟩, ⟨tI, v80⟩]).bind (readOuts [.bool]) by kernel_rfl).trans ((Jstep2 (DKOf_eq c_spec_l2Has)).trans (by kernel_rfl))
/- loop.example/g01989/spec.FreshValue -/
def s_spec_FreshValue : Sig := ⟨19, [.v tLI], [(tI, [none]), (.bool, [none])]⟩
def a_spec_FreshValue : FAnn := ⟨[⟨[(0, ⟨0, [], .va⟩), (15, ⟨0, [], .pl 1 false⟩)], [0]⟩,
    ⟨[(0, ⟨0, [], .va⟩), (15, ⟨0, [], .pl 1 false⟩), (64, ⟨0, [], .va⟩), (79, ⟨0, [], .pl 1 false⟩)], [0, 64]⟩],
  (.seq (.reg [aT, aT]) (.seq (.seq (.reg [aT]) (.block none (.loop 1 (.seq (.seq (.reg [aR, aT]) (.cond none .none .none)) (.seq (.block none (.seq (.reg [aR, aR, aT, aT]) (.cond none (.seq (.reg [aR, aT, aT]) .none) .none))) (.reg [aR, aT, aT])))))) (.seq (.reg [aT, aT]) .none))),
  []⟩
def b_spec_FreshValue : List (Nat × Tree) := [(0, (.ins (.grp [] [.cp 32 (.c (.int .i64 (0)))] (.grp [] [.cp 48 (.c (.bool false))] .nil)) (.ins (.grp [] [.cp 64 (.c (.int .i64 (0)))] .nil) (.jump 1 [0, 64])))),
  (1, (.ins (.grp [] [.cp 80 (.k 64)] (.grp [] [.bin .leq 96 (.k 80) (.c (.int .i64 (9)))] .nil)) (.ite (.k 96) (.ins (.grp [] [.cp 144 (.k 0)] (.grp [] [.cp 160 (.k 64)] (.grp [] [.call 0 [(tLI, [(.k 144)]), (tI, [(.k 160)])] [[176]]] (.grp [] [.not 192 (.k 176)] .nil)))) (.ite (.k 192) (.ins (.grp [] [.cp 208 (.k 64)] (.grp [] [.cp 32 (.k 208)] (.grp [] [.cp 48 (.c (.bool true))] .nil))) (.ret [(tI, [(.k 32)]), (.bool, [(.k 48)])])) (.ins (.grp [] [.cp 112 (.k 64)] (.grp [] [.bin .add 128 (.k 112) (.c (.int .i64 (1)))] (.grp [] [.cp 64 (.k 128)] .nil))) (.jump 1 [0, 64])))) (.ins (.grp [] [.cp 32 (.c (.int .i64 (0)))] (.grp [] [.cp 48 (.c (.bool false))] .nil)) (.ret [(tI, [(.k 32)]), (.bool, [(.k 48)])])))))]
noncomputable def c_spec_FreshValue : List Lf.Fn := [n_spec_l2Has]
noncomputable def f_spec_FreshValue : (List Int) → Option (Int × Bool) := tyd [tLI] [tI, .bool] (fnD (DOf c_spec_FreshValue) s_spec_FreshValue a_spec_FreshValue.L b_spec_FreshValue)
noncomputable def n_spec_FreshValue : Lf.Fn := ⟨s_spec_FreshValue, [tLI], [tI, .bool], f_spec_FreshValue⟩
noncomputable def l1_spec_FreshValue (v0 : (List Int)) (v64 : Int) : Option (Int × Bool) := (Jl (DOf c_spec_FreshValue) (irBlk a_spec_FreshValue.L b_spec_FreshValue) 1 [⟨tLI, v0⟩, ⟨tI, v64⟩]).bind (readOuts [tI, .bool])
theorem k_spec_FreshValue : compFn Try.prog (sigsOf c_spec_FreshValue) s_spec_FreshValue a_spec_FreshValue = some b_spec_FreshValue := by kernel_rfl
theorem g_spec_FreshValue : Lf.Good Try.prog n_spec_FreshValue := good_of (by simp only [c_spec_FreshValue, List.mem_singleton]; rintro _ rfl; exact g_spec_l2Has) k_spec_FreshValue (by kernel_rfl) ⟨Try.f19, by kernel_rfl, by kernel_rfl, by kernel_rfl⟩ [tLI] [tI, .bool]
theorem f_spec_FreshValue_eq (x0 : (List Int)) : f_spec_FreshValue x0 =
    l1_spec_FreshValue x0 (0 : Int) :=
  (show f_spec_FreshValue x0 = (Jl (DOf c_spec_FreshValue) (irBlk a_spec_FreshValue.L b_spec_FreshValue) 0 [⟨tLI, x0⟩]).bind (readOuts [tI, .bool]) by kernel_rfl).trans ((Jstep2 (DKOf_eq c_spec_FreshValue)).trans (by kernel_rfl))
theorem l1_spec_FreshValue_eq (v0 : (List Int)) (v64 : Int) : l1_spec_FreshValue v0 v64 =
    bif (decide (v64 ≤ (9 : Int))) then
      (f_spec_l2Has v0 v64).bind fun z1 =>
      bif (!z1) then
        some (v64, true)
      else
        l1_spec_FreshValue v0 (IntKind.wrap .i64 (v64 + (1 : Int)))
    else
      some ((0 : Int), false) :=
  (show l1_spec_FreshValue v0 v64 = (Jl (DOf c_spec_FreshValue) (irBlk a_spec_FreshValue.L b_spec_FreshValue) 1 [⟨tLI, v0⟩, ⟨tI, v64⟩]).bind (readOuts [tI, .bool]) by kernel_rfl).trans ((Jstep2 (DKOf_eq c_spec_FreshValue)).trans (by kernel_rfl))
/- slices.Index[[]int,int] -/
def s_slices_Index_int : Sig := ⟨52, [.v tLI, .v tI], [(tI, [none])]⟩
def a_slices_Index_int : FAnn := ⟨[⟨[(0, ⟨0, [], .va⟩), (15, ⟨0, [], .pl 1 false⟩), (16, ⟨0, [], .va⟩), (31, ⟨0, [], .pl 1 false⟩)], [0, 16]⟩,
    ⟨[(0, ⟨0, [], .va⟩), (15, ⟨0, [], .pl 1 false⟩), (16, ⟨0, [], .va⟩), (31, ⟨0, [], .pl 1 false⟩), (112, ⟨0, [], .va⟩), (127, ⟨0, [], .pl 1 false⟩), (128, ⟨0, [], .va⟩), (143, ⟨0, [], .pl 1 false⟩)], [0, 16, 112, 128]⟩],
  (.seq (.reg [aT]) (.seq (.seq (.reg [aR, aT, aR]) (.block none (.loop 1 (.seq (.reg [aT]) (.seq (.cond none .none .none) (.seq (.block none (.seq (.reg [aR, aT]) (.seq (.reg [aR, aR, aR, aT, aT, aT]) (.cond none (.seq (.reg [aR, aT]) .none) .none)))) (.reg [aT, aR]))))))) (.seq (.reg [aT]) .none))),
  []⟩
def b_slices_Index_int : List (Nat × Tree) := [(0, (.ins (.grp [] [.cp 64 (.c (.int .i64 (0)))] .nil) (.ins (.grp [] [.cp 96 (.k 0)] (.grp [] [.len false 112 (.k 96)] (.grp [] [.cp 128 (.c (.int .i64 (0)))] .nil))) (.jump 1 [0, 16, 112, 128])))),
  (1, (.ins (.grp [] [.bin .lss 144 (.k 128) (.k 112)] .nil) (.ite (.k 144) (.ins (.grp [] [.cp 160 (.k 128)] (.grp [] [.cp 80 (.k 160)] .nil)) (.ins (.grp [] [.cp 176 (.k 16)] (.grp [] [.cp 192 (.k 0)] (.grp [] [.cp 208 (.k 80)] (.grp [] [.idx (some tI) [224] 0 (.k 192) (.k 208)] (.grp [] [.cp 240 (.k 224)] (.grp [] [.bin .eql 256 (.k 176) (.k 240)] .nil)))))) (.ite (.k 256) (.ins (.grp [] [.cp 272 (.k 80)] (.grp [] [.cp 64 (.k 272)] .nil)) (.ret [(tI, [(.k 64)])])) (.ins (.grp [] [.bin .add 288 (.k 128) (.c (.int .i64 (1)))] (.grp [] [.cp 128 (.k 288)] .nil)) (.jump 1 [0, 16, 112, 128]))))) (.ins (.grp [] [.cp 64 (.c (.int .i64 (-1)))] .nil) (.ret [(tI, [(.k 64)])])))))]
noncomputable def c_slices_Index_int : List Lf.Fn := []
noncomputable def f_slices_Index_int : (List Int) → Int → Option (Int) := tyd [tLI, tI] [tI] (fnD (DOf c_slices_Index_int) s_slices_Index_int a_slices_Index_int.L b_slices_Index_int)
noncomputable def n_slices_Index_int : Lf.Fn := ⟨s_slices_Index_int, [tLI, tI], [tI], f_slices_Index_int⟩
noncomputable def l1_slices_Index_int (v0 : (List Int)) (v16 : Int) (v112 : Int) (v128 : Int) : Option (Int) := (Jl (DOf c_slices_Index_int) (irBlk a_slices_Index_int.L b_slices_Index_int) 1 [⟨tLI, v0⟩, ⟨tI, v16⟩, ⟨tI, v112⟩, ⟨tI, v128⟩]).bind (readOuts [tI])
theorem k_slices_Index_int : compFn Try.prog (sigsOf c_slices_Index_int) s_slices_Index_int a_slices_Index_int = some b_slices_Index_int := by kernel_rfl
theorem g_slices_Index_int : Lf.Good Try.prog n_slices_Index_int := good_of (by intro _ h; simp [c_slices_Index_int] at h) k_slices_Index_int (by kernel_rfl) ⟨Try.f52, by kernel_rfl, by kernel_rfl, by kernel_rfl⟩ [tLI, tI] [tI]
theorem f_slices_Index_int_eq (x0 : (List Int)) (x1 : Int) : f_slices_Index_int x0 x1 =
    l1_slices_Index_int x0 x1 (x0.length : Int) (0 : Int) :=
  (show f_slices_Index_int x0 x1 = (Jl (DOf c_slices_Index_int) (irBlk a_slices_Index_int.L b_slices_Index_int) 0 [⟨tLI, x0⟩, ⟨tI, x1⟩]).bind (readOuts [tI]) by kernel_rfl).trans ((Jstep2 (DKOf_eq c_slices_Index_int)).trans (by kernel_rfl))
theorem l1_slices_Index_int_eq (v0 : (List Int)) (v16 : Int) (v112 : Int) (v128 : Int) : l1_slices_Index_int v0 v16 v112 v128 =
    bif (decide (v128 < v112)) then
      (at? v0 v128).bind fun z1 =>
      bif (v16 == z1) then
        some v128
      else
        l1_slices_Index_int v0 v16 v112 (IntKind.wrap .i64 (v128 + (1 : Int)))
    else
      some (-1 : Int) :=
  (show l1_slices_Index_int v0 v16 v112 v128 = (Jl (DOf c_slices_Index_int) (irBlk a_slices_Index_int.L b_slices_Index_int) 1 [⟨tLI, v0⟩, ⟨tI, v16⟩, ⟨tI, v112⟩, ⟨tI, v128⟩]).bind (readOuts [tI]) by kernel_rfl).trans ((Jstep2 (DKOf_eq c_slices_Index_int)).trans (by kernel_rfl))
/- slices.Contains[[]int,int] -/
def s_slices_Contains_int : Sig := ⟨38, [.v tLI, .v tI], [(.bool, [none])]⟩
def a_slices_Contains_int : FAnn := ⟨[⟨[(0, ⟨0, [], .va⟩), (15, ⟨0, [], .pl 1 false⟩), (16, ⟨0, [], .va⟩), (31, ⟨0, [], .pl 1 false⟩)], [0, 16]⟩],
  (.seq (.reg [aT]) (.seq (.reg [aR, aR, aT, aT, aT]) .none)),
  []⟩
def b_slices_Contains_int : List (Nat × Tree) := [(0, (.ins (.grp [] [.cp 64 (.c (.bool false))] .nil) (.ins (.grp [] [.cp 80 (.k 0)] (.grp [] [.cp 96 (.k 16)] (.grp [] [.call 0 [(tLI, [(.k 80)]), (tI, [(.k 96)])] [[112]]] (.grp [] [.bin .geq 128 (.k 112) (.c (.int .i64 (0)))] (.grp [] [.cp 64 (.k 128)] .nil))))) (.ret [(.bool, [(.k 64)])]))))]
noncomputable def c_slices_Contains_int : List Lf.Fn := [n_slices_Index_int]
noncomputable def f_slices_Contains_int : (List Int) → Int → Option (Bool) := tyd [tLI, tI] [.bool] (fnD (DOf c_slices_Contains_int) s_slices_Contains_int a_slices_Contains_int.L b_slices_Contains_int)
noncomputable def n_slices_Contains_int : Lf.Fn := ⟨s_slices_Contains_int, [tLI, tI], [.bool], f_slices_Contains_int⟩
theorem k_slices_Contains_int : compFn Try.prog (sigsOf c_slices_Contains_int) s_slices_Contains_int a_slices_Contains_int = some b_slices_Contains_int := by kernel_rfl
theorem g_slices_Contains_int : Lf.Good Try.prog n_slices_Contains_int := good_of (by simp only [c_slices_Contains_int, List.mem_singleton]; rintro _ rfl; exact g_slices_Index_int) k_slices_Contains_int (by kernel_rfl) ⟨Try.f38, by kernel_rfl, by kernel_rfl, by kernel_rfl⟩ [tLI, tI] [.bool]
theorem f_slices_Contains_int_eq (x0 : (List Int)) (x1 : Int) : f_slices_Contains_int x0 x1 =
    (f_slices_Index_int x0 x1).bind fun z1 =>
    some (decide (z1 ≥ (0 : Int))) :=
  (show f_slices_Contains_int x0 x1 = (Jl (DOf c_slices_Contains_int) (irBlk a_slices_Contains_int.L b_slices_Contains_int) 0 [⟨tLI, x0⟩, ⟨tI, x1⟩]).bind (readOuts [.bool]) by kernel_rfl).trans ((Jstep2 (DKOf_eq c_slices_Contains_int)).trans (by kernel_rfl))
/- loop.example/g01989/impl.FreshValue -/
def s_impl_FreshValue : Sig := ⟨20, [.v tLI], [(tI, [none]), (.bool, [none])]⟩
def a_impl_FreshValue : FAnn := ⟨[⟨[(0, ⟨0, [], .va⟩), (15, ⟨0, [], .pl 1 false⟩)], [0]⟩,
    ⟨[(0, ⟨0, [], .va⟩), (15, ⟨0, [], .pl 1 false⟩), (80, ⟨0, [], .va⟩), (95, ⟨0, [], .pl 1 false⟩)], [0, 80]⟩],
  (.seq (.reg [aT, aT]) (.seq (.seq (.reg [aR]) (.block none (.loop 1 (.seq (.reg [aT]) (.seq (.cond none .none .none) (.seq (.block none (.seq (.reg [aR, aT]) (.seq (.reg [aR, aR, aT, aT]) (.cond none (.seq (.reg [aR, aT, aT]) .none) .none)))) (.reg [aT, aR]))))))) (.seq (.reg [aT, aT]) .none))),
  []⟩
def b_impl_FreshValue : List (Nat × Tree) := [(0, (.ins (.grp [] [.cp 32 (.c (.int .i64 (0)))] (.grp [] [.cp 48 (.c (.bool false))] .nil)) (.ins (.grp [] [.cp 80 (.c (.int .i64 (0)))] .nil) (.jump 1 [0, 80])))),
  (1, (.ins (.grp [] [.bin .lss 96 (.k 80) (.c (.int .i64 (10)))] .nil) (.ite (.k 96) (.ins (.grp [] [.cp 112 (.k 80)] (.grp [] [.cp 64 (.k 112)] .nil)) (.ins (.grp [] [.cp 128 (.k 0)] (.grp [] [.cp 144 (.k 64)] (.grp [] [.call 0 [(tLI, [(.k 128)]), (tI, [(.k 144)])] [[160]]] (.grp [] [.not 176 (.k 160)] .nil)))) (.ite (.k 176) (.ins (.grp [] [.cp 192 (.k 64)] (.grp [] [.cp 32 (.k 192)] (.grp [] [.cp 48 (.c (.bool true))] .nil))) (.ret [(tI, [(.k 32)]), (.bool, [(.k 48)])])) (.ins (.grp [] [.bin .add 208 (.k 80) (.c (.int .i64 (1)))] (.grp [] [.cp 80 (.k 208)] .nil)) (.jump 1 [0, 80]))))) (.ins (.grp [] [.cp 32 (.c (.int .i64 (0)))] (.grp [] [.cp 48 (.c (.bool false))] .nil)) (.ret [(tI, [(.k 32)]), (.bool, [(.k 48)])])))))]
noncomputable def c_impl_FreshValue : List Lf.Fn := [n_slices_Contains_int]
noncomputable def f_impl_FreshValue : (List Int) → Option (Int × Bool) := tyd [tLI] [tI, .bool] (fnD (DOf c_impl_FreshValue) s_impl_FreshValue a_impl_FreshValue.L b_impl_FreshValue)
noncomputable def n_impl_FreshValue : Lf.Fn := ⟨s_impl_FreshValue, [tLI], [tI, .bool], f_impl_FreshValue⟩
noncomputable def l1_impl_FreshValue (v0 : (List Int)) (v80 : Int) : Option (Int × Bool) := (Jl (DOf c_impl_FreshValue) (irBlk a_impl_FreshValue.L b_impl_FreshValue) 1 [⟨tLI, v0⟩, ⟨tI, v80⟩]).bind (readOuts [tI, .bool])
theorem k_impl_FreshValue : compFn Try.prog (sigsOf c_impl_FreshValue) s_impl_FreshValue a_impl_FreshValue = some b_impl_FreshValue := by kernel_rfl
theorem g_impl_FreshValue : Lf.Good Try.prog n_impl_FreshValue := good_of (by simp only [c_impl_FreshValue, List.mem_singleton]; rintro _ rfl; exact g_slices_Contains_int) k_impl_FreshValue (by kernel_rfl) ⟨Try.f20, by kernel_rfl, by kernel_rfl, by kernel_rfl⟩ [tLI] [tI, .bool]
theorem f_impl_FreshValue_eq (x0 : (List Int)) : f_impl_FreshValue x0 =
    l1_impl_FreshValue x0 (0 : Int) :=
  (show f_impl_FreshValue x0 = (Jl (DOf c_impl_FreshValue) (irBlk a_impl_FreshValue.L b_impl_FreshValue) 0 [⟨tLI, x0⟩]).bind (readOuts [tI, .bool]) by kernel_rfl).trans ((Jstep2 (DKOf_eq c_impl_FreshValue)).trans (by kernel_rfl))
theorem l1_impl_FreshValue_eq (v0 : (List Int)) (v80 : Int) : l1_impl_FreshValue v0 v80 =
    bif (decide (v80 < (10 : Int))) then
      (f_slices_Contains_int v0 v80).bind fun z1 =>
      bif (!z1) then
        some (v80, true)
      else
        l1_impl_FreshValue v0 (IntKind.wrap .i64 (v80 + (1 : Int)))
    else
      some ((0 : Int), false) :=
  (show l1_impl_FreshValue v0 v80 = (Jl (DOf c_impl_FreshValue) (irBlk a_impl_FreshValue.L b_impl_FreshValue) 1 [⟨tLI, v0⟩, ⟨tI, v80⟩]).bind (readOuts [tI, .bool]) by kernel_rfl).trans ((Jstep2 (DKOf_eq c_impl_FreshValue)).trans (by kernel_rfl))
/- loop.example/g01989/laws.eqIntS -/
def s_laws_eqIntS : Sig := ⟨18, [.v tLI, .v tLI], [(.bool, [none])]⟩
def a_laws_eqIntS : FAnn := ⟨[⟨[(0, ⟨0, [], .va⟩), (15, ⟨0, [], .pl 1 false⟩), (16, ⟨0, [], .va⟩), (31, ⟨0, [], .pl 1 false⟩)], [0, 16]⟩,
    ⟨[(0, ⟨0, [], .va⟩), (15, ⟨0, [], .pl 1 false⟩), (16, ⟨0, [], .va⟩), (31, ⟨0, [], .pl 1 false⟩), (80, ⟨0, [], .va⟩), (95, ⟨0, [], .pl 1 false⟩)], [0, 16, 80]⟩],
  (.seq (.reg [aT]) (.seq (.seq (.reg [aR, aT, aR, aT, aT]) (.cond none (.seq (.reg [aT]) .none) .none)) (.seq (.seq (.reg [aT]) (.block none (.loop 1 (.seq (.seq (.reg [aR, aR, aT, aT]) (.cond none .none .none)) (.seq (.block none (.seq (.reg [aR, aR, aT, aT, aR, aR, aT, aT, aT]) (.cond none (.seq (.reg [aT]) .none) .none))) (.reg [aR, aT, aT])))))) (.seq (.reg [aT]) .none)))),
  []⟩
def b_laws_eqIntS : List (Nat × Tree) := [(0, (.ins (.grp [] [.cp 64 (.c (.bool false))] .nil) (.ins (.grp [] [.cp 96 (.k 0)] (.grp [] [.len false 112 (.k 96)] (.grp [] [.cp 128 (.k 16)] (.grp [] [.len false 144 (.k 128)] (.grp [] [.bin .neq 160 (.k 112) (.k 144)] .nil))))) (.ite (.k 160) (.ins (.grp [] [.cp 64 (.c (.bool false))] .nil) (.ret [(.bool, [(.k 64)])])) (.ins (.grp [] [.cp 80 (.c (.int .i64 (0)))] .nil) (.jump 1 [0, 16, 80])))))),
  (1, (.ins (.grp [] [.cp 176 (.k 80)] (.grp [] [.cp 192 (.k 0)] (.grp [] [.len false 208 (.k 192)] (.grp [] [.bin .lss 224 (.k 176) (.k 208)] .nil)))) (.ite (.k 224) (.ins (.grp [] [.cp 272 (.k 0)] (.grp [] [.cp 288 (.k 80)] (.grp [] [.idx (some tI) [304] 0 (.k 272) (.k 288)] (.grp [] [.cp 320 (.k 304)] (.grp [] [.cp 336 (.k 16)] (.grp [] [.cp 352 (.k 80)] (.grp [] [.idx (some tI) [368] 0 (.k 336) (.k 352)] (.grp [] [.cp 384 (.k 368)] (.grp [] [.bin .neq 400 (.k 320) (.k 384)] .nil))))))))) (.ite (.k 400) (.ins (.grp [] [.cp 64 (.c (.bool false))] .nil) (.ret [(.bool, [(.k 64)])])) (.ins (.grp [] [.cp 240 (.k 80)] (.grp [] [.bin .add 256 (.k 240) (.c (.int .i64 (1)))] (.grp [] [.cp 80 (.k 256)] .nil))) (.jump 1 [0, 16, 80])))) (.ins (.grp [] [.cp 64 (.c (.bool true))] .nil) (.ret [(.bool, [(.k 64)])])))))]
noncomputable def c_laws_eqIntS : List Lf.Fn := []
noncomputable def f_laws_eqIntS : (List Int) → (List Int) → Option (Bool) := tyd [tLI, tLI] [.bool] (fnD (DOf c_laws_eqIntS) s_laws_eqIntS a_laws_eqIntS.L b_laws_eqIntS)
noncomputable def n_laws_eqIntS : Lf.Fn := ⟨s_laws_eqIntS, [tLI, tLI], [.bool], f_laws_eqIntS⟩
noncomputable def l1_laws_eqIntS (v0 : (List Int)) (v16 : (List Int)) (v80 : Int) : Option (Bool) := (Jl (DOf c_laws_eqIntS) (irBlk a_laws_eqIntS.L b_laws_eqIntS) 1 [⟨tLI, v0⟩, ⟨tLI, v16⟩, ⟨tI, v80⟩]).bind (readOuts [.bool])
theorem k_laws_eqIntS : compFn Try.prog (sigsOf c_laws_eqIntS) s_laws_eqIntS a_laws_eqIntS = some b_laws_eqIntS := by kernel_rfl
theorem g_laws_eqIntS : Lf.Good Try.prog n_laws_eqIntS := good_of (by intro _ h; simp [c_laws_eqIntS] at h) k_laws_eqIntS (by kernel_rfl) ⟨Try.f18, by kernel_rfl, by kernel_rfl, by kernel_rfl⟩ [tLI, tLI] [.bool]
theorem f_laws_eqIntS_eq (x0 : (List Int)) (x1 : (List Int)) : f_laws_eqIntS x0 x1 =
    bif ((x0.length : Int) != (x1.length : Int)) then
      some false
    else
      l1_laws_eqIntS x0 x1 (0 : Int) :=
  (show f_laws_eqIntS x0 x1 = (Jl (DOf c_laws_eqIntS) (irBlk a_laws_eqIntS.L b_laws_eqIntS) 0 [⟨tLI, x0⟩, ⟨tLI, x1⟩]).bind (readOuts [.bool]) by kernel_rfl).trans ((Jstep2 (DKOf_eq c_laws_eqIntS)).trans (by kernel_rfl))
theorem l1_laws_eqIntS_eq (v0 : (List Int)) (v16 : (List Int)) (v80 : Int) : l1_laws_eqIntS v0 v16 v80 =
    bif (decide (v80 < (v0.length : Int))) then
      (at? v0 v80).bind fun z1 =>
      (at? v16 v80).bind fun z2 =>
      bif (z1 != z2) then
        some false
      else
        l1_laws_eqIntS v0 v16 (IntKind.wrap .i64 (v80 + (1 : Int)))
    else
      some true :=
  (show l1_laws_eqIntS v0 v16 v80 = (Jl (DOf c_laws_eqIntS) (irBlk a_laws_eqIntS.L b_laws_eqIntS) 1 [⟨tLI, v0⟩, ⟨tLI, v16⟩, ⟨tI, v80⟩]).bind (readOuts [.bool]) by kernel_rfl).trans ((Jstep2 (DKOf_eq c_laws_eqIntS)).trans (by kernel_rfl))
/- loop.example/g01989/laws.FnExactFreshValue -/
def s_laws_FnExactFreshValue : Sig := ⟨6, [.v tLI], [(.bool, [none])]⟩
def a_laws_FnExactFreshValue : FAnn := ⟨[⟨[(0, ⟨0, [], .va⟩), (15, ⟨0, [], .pl 1 false⟩)], [0]⟩],
  (.seq (.reg [aT]) (.seq (.seq (.reg [aR, aT, aT]) (.cond none (.seq (.reg [aT]) .none) .none)) (.seq (.reg [aR, aT, ⟨.take, 1, []⟩, aR, aT, aT, aT, aT]) (.seq (.reg [aR, aT, aT]) (.seq (.reg [aR, ⟨.take, 2, []⟩, aR, aT, aT, aT, aT]) (.seq (.seq (.reg [aR, aR, aT, aR, aR, aR, aT, aT]) (.cond none (.seq (.reg [aT]) .none) .none)) (.seq (.seq (.reg [aR, aR, aT, ⟨.take, 3, []⟩, aT]) (.cond none (.seq (.reg [aT]) .none) .none)) (.seq (.reg [aT]) .none)))))))),
  []⟩
def b_laws_FnExactFreshValue : List (Nat × Tree) := [(0, (.ins (.grp [] [.cp 32 (.c (.bool false))] .nil) (.ins (.grp [] [.cp 128 (.k 0)] (.grp [] [.len false 144 (.k 128)] (.grp [] [.bin .gtr 160 (.k 144) (.c (.int .i64 (1048576)))] .nil))) (.ite (.k 160) (.ins (.grp [] [.cp 32 (.c (.bool true))] .nil) (.ret [(.bool, [(.k 32)])])) (.ins (.grp [] [.cp 192 (.k 0)] (.grp [] [.call 0 [(tLI, [(.k 192)])] [[208]]] (.grp [] [.call 1 [(tLI, [(.k 208)])] [[224], [225]]] (.grp [] [.cp 176 (.k 224), .cp 177 (.k 225)] (.grp [] [.cp 240 (.k 176)] (.grp [] [.cp 256 (.k 177)] (.grp [] [.cp 48 (.k 240)] (.grp [] [.cp 64 (.k 256)] .nil)))))))) (.ins (.grp [] [.cp 272 (.k 0)] (.grp [] [.call 0 [(tLI, [(.k 272)])] [[288]]] (.grp [] [.cp 80 (.k 288)] .nil))) (.ins (.grp [] [.cp 320 (.k 80)] (.grp [] [.call 2 [(tLI, [(.k 320)])] [[336], [337]]] (.grp [] [.cp 304 (.k 336), .cp 305 (.k 337)] (.grp [] [.cp 352 (.k 304)] (.grp [] [.cp 368 (.k 305)] (.grp [] [.cp 96 (.k 352)] (.grp [] [.cp 112 (.k 368)] .nil))))))) (.ins (.grp [] [.cp 384 (.k 96)] (.grp [] [.cp 400 (.k 48)] (.grp [] [.bin .neq 416 (.k 384) (.k 400)] (.grp [] [.cp 432 (.k 416)] (.sel 496 432 .nil (.c (.bool true)) (.grp [] [.cp 448 (.k 112)] (.grp [] [.cp 464 (.k 64)] (.grp [] [.beq true 480 (.k 448) (.k 464)] .nil))) (.k 480) .nil))))) (.ite (.k 496) (.ins (.grp [] [.cp 32 (.c (.bool false))] .nil) (.ret [(.bool, [(.k 32)])])) (.ins (.grp [] [.cp 512 (.k 80)] (.grp [] [.cp 528 (.k 0)] (.grp [] [.call 0 [(tLI, [(.k 528)])] [[544]]] (.grp [] [.call 3 [(tLI, [(.k 512)]), (tLI, [(.k 544)])] [[560]]] (.grp [] [.not 576 (.k 560)] .nil))))) (.ite (.k 576) (.ins (.grp [] [.cp 32 (.c (.bool false))] .nil) (.ret [(.bool, [(.k 32)])])) (.ins (.grp [] [.cp 32 (.c (.bool true))] .nil) (.ret [(.bool, [(.k 32)])])))))))))))))]
noncomputable def c_laws_FnExactFreshValue : List Lf.Fn := [n_laws_toIntS, n_spec_FreshValue, n_impl_FreshValue, n_laws_eqIntS]
noncomputable def f_laws_FnExactFreshValue : (List Int) → Option (Bool) := tyd [tLI] [.bool] (fnD (DOf c_laws_FnExactFreshValue) s_laws_FnExactFreshValue a_laws_FnExactFreshValue.L b_laws_FnExactFreshValue)
noncomputable def n_laws_FnExactFreshValue : Lf.Fn := ⟨s_laws_FnExactFreshValue, [tLI], [.bool], f_laws_FnExactFreshValue⟩
theorem k_laws_FnExactFreshValue : compFn Try.prog (sigsOf c_laws_FnExactFreshValue) s_laws_FnExactFreshValue a_laws_FnExactFreshValue = some b_laws_FnExactFreshValue := by kernel_rfl
theorem g_laws_FnExactFreshValue : Lf.Good Try.prog n_laws_FnExactFreshValue := good_of (by simp only [c_laws_FnExactFreshValue, List.mem_cons, List.not_mem_nil, or_false]; rintro _ (rfl | rfl | rfl | rfl); exact g_laws_toIntS; exact g_spec_FreshValue; exact g_impl_FreshValue; exact g_laws_eqIntS) k_laws_FnExactFreshValue (by kernel_rfl) ⟨Try.f6, by kernel_rfl, by kernel_rfl, by kernel_rfl⟩ [tLI] [.bool]
theorem f_laws_FnExactFreshValue_eq (x0 : (List Int)) : f_laws_FnExactFreshValue x0 =
    bif (decide ((x0.length : Int) > (1048576 : Int))) then
      some true
    else
      (f_laws_toIntS x0).bind fun z1 =>
      (f_spec_FreshValue z1).bind fun z2 =>
      (f_laws_toIntS x0).bind fun z3 =>
      (f_impl_FreshValue z3).bind fun z4 =>
      (bif (z4.1 != z2.1) then some true else some (!(z4.2 == z2.2))).bind fun z5 =>
      bif z5 then
        some false
      else
        (f_laws_toIntS x0).bind fun z6 =>
        (f_laws_eqIntS z3 z6).bind fun z7 =>
        bif (!z7) then
          some false
        else
          some true :=
  (show f_laws_FnExactFreshValue x0 = (Jl (DOf c_laws_FnExactFreshValue) (irBlk a_laws_FnExactFreshValue.L b_laws_FnExactFreshValue) 0 [⟨tLI, x0⟩]).bind (readOuts [.bool]) by kernel_rfl).trans ((Jstep2 (DKOf_eq c_laws_FnExactFreshValue)).trans (by kernel_rfl))
end Go.Proofs.Ytgabgcogeedclaa
