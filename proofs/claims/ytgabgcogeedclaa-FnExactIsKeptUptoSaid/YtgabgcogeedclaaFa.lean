/- The functions that FnExactIsKept reaches, as functions of data, and their texts, part 1 of 1. -/
import Derived.Test.YtgabgcogeedclaaLd
import Derived.KernelRfl
import Derived.Test.YtgabgcogeedclaaProg
set_option linter.unusedVariables false
set_option linter.unusedSimpArgs false
namespace Go.Proofs.Ytgabgcogeedclaa
open Go.Lf
def aT : Ann := ⟨.take, 0, []⟩
def aR : Ann := ⟨.ref, 0, []⟩
def tI : Ty := .int .i64
def tLI : Ty := .slice tI
def tPII : Ty := .pair tI tI
/- loop.example/g01989/laws.toIntS -/
def s_laws_toIntS : Sig := ⟨16, [.v tLI], [(tLI, [some .sc])]⟩
def a_laws_toIntS : FAnn := ⟨[⟨[(0, ⟨0, [], .va⟩), (15, ⟨0, [], .pl 1 false⟩)], [0]⟩,
    ⟨[(0, ⟨0, [], .va⟩), (15, ⟨0, [], .pl 1 false⟩), (48, ⟨0, [], .ro .sc none⟩), (63, ⟨0, [], .pl 1 false⟩), (64, ⟨0, [], .va⟩), (79, ⟨0, [], .pl 1 false⟩)], [0, 48, 64]⟩],
  (.seq (.reg [aT]) (.seq (.reg [aR, aT, aT, aT]) (.seq (.seq (.reg [aT]) (.block none (.loop 1 (.seq (.seq (.reg [aR, aR, aT, aT]) (.cond none .none .none)) (.seq (.block none (.reg [aR, aR, aR, aR, aT, aT, aT, aT])) (.reg [aR, aT, aT])))))) (.seq (.reg [aR, aT]) .none)))),
  []⟩
def b_laws_toIntS : List (Nat × Tree) := [(0, (.ins (.grp [] [.cp 32 (.c (.nil tI))] .nil) (.ins (.grp [] [.cp 80 (.k 0)] (.grp [] [.len false 96 (.k 80)] (.grp [] [.mk 112 tI (.k 96)] (.grp [] [.cp 48 (.k 112)] .nil)))) (.ins (.grp [] [.cp 64 (.c (.int .i64 (0)))] .nil) (.jump 1 [0, 48, 64]))))),
  (1, (.ins (.grp [] [.cp 128 (.k 64)] (.grp [] [.cp 144 (.k 0)] (.grp [] [.len false 160 (.k 144)] (.grp [] [.bin .lss 176 (.k 128) (.k 160)] .nil)))) (.ite (.k 176) (.ins (.grp [] [.cp 224 (.k 48)] (.grp [] [.cp 240 (.k 64)] (.grp [] [.cp 256 (.k 0)] (.grp [] [.cp 272 (.k 64)] (.grp [] [.idx (some tI) [288] 0 (.k 256) (.k 272)] (.grp [] [.cp 304 (.k 288)] (.grp [] [.chk tI (.k 48) (.k 240)] (.grp [] [.setE 48 (.k 240) 0 [tI] [(.k 304)]] .nil)))))))) (.ins (.grp [] [.cp 192 (.k 64)] (.grp [] [.bin .add 208 (.k 192) (.c (.int .i64 (1)))] (.grp [] [.cp 64 (.k 208)] .nil))) (.jump 1 [0, 48, 64]))) (.ins (.grp [] [.cp 336 (.k 48)] (.grp [] [.cp 32 (.k 48)] .nil)) (.ret [(tLI, [(.k 32)])])))))]
noncomputable def c_laws_toIntS : List Lf.Fn := []
noncomputable def f_laws_toIntS : (List Int) → Option ((List Int)) := tyd [tLI] [tLI] (fnD (DOf c_laws_toIntS) s_laws_toIntS a_laws_toIntS.L b_laws_toIntS)
noncomputable def n_laws_toIntS : Lf.Fn := ⟨s_laws_toIntS, [tLI], [tLI], f_laws_toIntS⟩
noncomputable def l1_laws_toIntS (v0 : (List Int)) (v48 : (List Int)) (v64 : Int) : Option ((List Int)) := (Jl (DOf c_laws_toIntS) (irBlk a_laws_toIntS.L b_laws_toIntS) 1 [⟨tLI, v0⟩, ⟨tLI, v48⟩, ⟨tI, v64⟩]).bind (readOuts [tLI])
theorem k_laws_toIntS : compFn Try.prog (sigsOf c_laws_toIntS) s_laws_toIntS a_laws_toIntS = some b_laws_toIntS := by kernel_rfl
theorem g_laws_toIntS : Lf.Good Try.prog n_laws_toIntS := good_of (by intro _ h; simp [c_laws_toIntS] at h) k_laws_toIntS (by kernel_rfl) ⟨Try.f16, by kernel_rfl, by kernel_rfl, by kernel_rfl⟩ [tLI] [tLI]
theorem f_laws_toIntS_eq (x0 : (List Int)) : f_laws_toIntS x0 =
    bif mkOk (x0.length : Int) then
    l1_laws_toIntS x0 (List.replicate (Int.toNat (x0.length : Int)) (0 : Int)) (0 : Int)
    else none :=
  (show f_laws_toIntS x0 = (Jl (DOf c_laws_toIntS) (irBlk a_laws_toIntS.L b_laws_toIntS) 0 [⟨tLI, x0⟩]).bind (readOuts [tLI]) by kernel_rfl).trans ((Jstep2 (DKOf_eq c_laws_toIntS)).trans (by kernel_rfl))
theorem l1_laws_toIntS_eq (v0 : (List Int)) (v48 : (List Int)) (v64 : Int) : l1_laws_toIntS v0 v48 v64 =
    bif (decide (v64 < (v0.length : Int))) then
      (at? v0 v64).bind fun z1 =>
      (at? v48 v64).bind fun _ =>
      (at? v48 v64).bind fun z2 =>
      l1_laws_toIntS v0 (v48.set (Int.toNat v64) z1) (IntKind.wrap .i64 (v64 + (1 : Int)))
    else
      some v48 :=
  (show l1_laws_toIntS v0 v48 v64 = (Jl (DOf c_laws_toIntS) (irBlk a_laws_toIntS.L b_laws_toIntS) 1 [⟨tLI, v0⟩, ⟨tLI, v48⟩, ⟨tI, v64⟩]).bind (readOuts [tLI]) by kernel_rfl).trans ((Jstep2 (DKOf_eq c_laws_toIntS)).trans (by kernel_rfl))
/- loop.example/g01989/laws.toWindow -/
def s_laws_toWindow : Sig := ⟨11, [.v tPII], [(tPII, [none, none])]⟩
def a_laws_toWindow : FAnn := ⟨[⟨[(0, ⟨0, [], .va⟩), (1, ⟨0, [], .va⟩), (15, ⟨0, [], .pl 2 true⟩)], [0, 1]⟩],
  (.seq (.reg [aT, aT]) (.seq (.reg [aT]) (.seq (.reg [aT, aT, aT, aT]) (.seq (.reg [aT, aT, aT, aT]) (.seq (.reg [aT, aT]) .none))))),
  []⟩
def b_laws_toWindow : List (Nat × Tree) := [(0, (.ins (.grp [] [.cp 16 (.k 0), .cp 17 (.k 1)] (.grp [] [.cp 32 (.c (.int .i64 (0))), .cp 33 (.c (.int .i64 (0)))] .nil)) (.ins (.grp [] [.cp 48 (.c (.int .i64 (0))), .cp 49 (.c (.int .i64 (0)))] .nil) (.ins (.grp [] [.cp 80 (.k 16)] (.grp [] [.cp 48 (.k 80)] .nil)) (.ins (.grp [] [.cp 128 (.k 17)] (.grp [] [.cp 49 (.k 128)] .nil)) (.ins (.grp [] [.cp 160 (.k 48), .cp 161 (.k 49)] (.grp [] [.cp 32 (.k 160), .cp 33 (.k 161)] .nil)) (.ret [(tPII, [(.k 32), (.k 33)])])))))))]
noncomputable def c_laws_toWindow : List Lf.Fn := []
noncomputable def f_laws_toWindow : (Int × Int) → Option ((Int × Int)) := tyd [tPII] [tPII] (fnD (DOf c_laws_toWindow) s_laws_toWindow a_laws_toWindow.L b_laws_toWindow)
noncomputable def n_laws_toWindow : Lf.Fn := ⟨s_laws_toWindow, [tPII], [tPII], f_laws_toWindow⟩
theorem k_laws_toWindow : compFn Try.prog (sigsOf c_laws_toWindow) s_laws_toWindow a_laws_toWindow = some b_laws_toWindow := by kernel_rfl
theorem g_laws_toWindow : Lf.Good Try.prog n_laws_toWindow := good_of (by intro _ h; simp [c_laws_toWindow] at h) k_laws_toWindow (by kernel_rfl) ⟨Try.f11, by kernel_rfl, by kernel_rfl, by kernel_rfl⟩ [tPII] [tPII]
theorem f_laws_toWindow_eq (x0 : (Int × Int)) : f_laws_toWindow x0 =
    some x0 :=
  (show f_laws_toWindow x0 = (Jl (DOf c_laws_toWindow) (irBlk a_laws_toWindow.L b_laws_toWindow) 0 [⟨tI, x0.1⟩, ⟨tI, x0.2⟩]).bind (readOuts [tPII]) by kernel_rfl).trans ((Jstep2 (DKOf_eq c_laws_toWindow)).trans (by kernel_rfl))
/- loop.example/g01989/spec.l1In -/
def s_spec_l1In : Sig := ⟨33, [.v tI, .v tI, .v tI], [(.bool, [none])]⟩
def a_spec_l1In : FAnn := ⟨[⟨[(0, ⟨0, [], .va⟩), (15, ⟨0, [], .pl 1 false⟩), (16, ⟨0, [], .va⟩), (31, ⟨0, [], .pl 1 false⟩), (32, ⟨0, [], .va⟩), (47, ⟨0, [], .pl 1 false⟩)], [0, 16, 32]⟩],
  (.seq (.reg [aT]) (.seq (.reg [aR, aR, aT, aR, aR, aR, aT, aT, aT]) .none)),
  []⟩
def b_spec_l1In : List (Nat × Tree) := [(0, (.ins (.grp [] [.cp 96 (.c (.bool false))] .nil) (.ins (.grp [] [.cp 112 (.k 0)] (.grp [] [.cp 128 (.k 16)] (.grp [] [.bin .geq 144 (.k 112) (.k 128)] (.grp [] [.cp 160 (.k 144)] (.sel 224 160 (.grp [] [.cp 176 (.k 0)] (.grp [] [.cp 192 (.k 32)] (.grp [] [.bin .leq 208 (.k 176) (.k 192)] .nil))) (.k 208) .nil (.c (.bool false)) (.grp [] [.cp 96 (.k 224)] .nil)))))) (.ret [(.bool, [(.k 96)])]))))]
noncomputable def c_spec_l1In : List Lf.Fn := []
noncomputable def f_spec_l1In : Int → Int → Int → Option (Bool) := tyd [tI, tI, tI] [.bool] (fnD (DOf c_spec_l1In) s_spec_l1In a_spec_l1In.L b_spec_l1In)
noncomputable def n_spec_l1In : Lf.Fn := ⟨s_spec_l1In, [tI, tI, tI], [.bool], f_spec_l1In⟩
theorem k_spec_l1In : compFn Try.prog (sigsOf c_spec_l1In) s_spec_l1In a_spec_l1In = some b_spec_l1In := by kernel_rfl
theorem g_spec_l1In : Lf.Good Try.prog n_spec_l1In := good_of (by intro _ h; simp [c_spec_l1In] at h) k_spec_l1In (by kernel_rfl) ⟨Try.f33, by kernel_rfl, by kernel_rfl, by kernel_rfl⟩ [tI, tI, tI] [.bool]
theorem f_spec_l1In_eq (x0 : Int) (x1 : Int) (x2 : Int) : f_spec_l1In x0 x1 x2 =
    (bif (decide (x0 ≥ x1)) then some (decide (x0 ≤ x2)) else some false).bind fun z1 =>
    some z1 :=
  (show f_spec_l1In x0 x1 x2 = (Jl (DOf c_spec_l1In) (irBlk a_spec_l1In.L b_spec_l1In) 0 [⟨tI, x0⟩, ⟨tI, x1⟩, ⟨tI, x2⟩]).bind (readOuts [.bool]) by kernel_rfl).trans ((Jstep2 (DKOf_eq c_spec_l1In)).trans (by kernel_rfl))
/- loop.example/g01989/spec.l18Times -/
def s_spec_l18Times : Sig := ⟨39, [.v tLI], [(.bool, [none])]⟩
def a_spec_l18Times : FAnn := ⟨[⟨[(0, ⟨0, [], .va⟩), (15, ⟨0, [], .pl 1 false⟩)], [0]⟩,
    ⟨[(0, ⟨0, [], .va⟩), (15, ⟨0, [], .pl 1 false⟩), (48, ⟨0, [], .va⟩), (63, ⟨0, [], .pl 1 false⟩)], [0, 48]⟩],
  (.seq (.reg [aT]) (.seq (.seq (.reg [aT]) (.block none (.loop 1 (.seq (.seq (.reg [aR, aR, aT, aT]) (.cond none .none .none)) (.seq (.block none (.seq (.reg [aR, aR, aT, aT, aT, aT, aR, aR, aT, aR, aR, aR, aT, aT, aR, aR, aT, aT, aT, aT, aT, aT]) (.cond none (.seq (.reg [aT]) .none) .none))) (.reg [aR, aT, aT])))))) (.seq (.reg [aR, aT, aT, aT]) .none))),
  []⟩
def b_spec_l18Times : List (Nat × Tree) := [(0, (.ins (.grp [] [.cp 32 (.c (.bool false))] .nil) (.ins (.grp [] [.cp 48 (.c (.int .i64 (0)))] .nil) (.jump 1 [0, 48])))),
  (1, (.ins (.grp [] [.cp 64 (.k 48)] (.grp [] [.cp 80 (.k 0)] (.grp [] [.len false 96 (.k 80)] (.grp [] [.bin .lss 112 (.k 64) (.k 96)] .nil)))) (.ite (.k 112) (.ins (.grp [] [.cp 160 (.k 0)] (.grp [] [.cp 176 (.k 48)] (.grp [] [.idx (some tI) [192] 0 (.k 160) (.k 176)] (.grp [] [.cp 208 (.k 192)] (.grp [] [.call 0 [(tI, [(.k 208)]), (tI, [(.c (.int .i64 (0)))]), (tI, [(.c (.int .i64 (10000)))])] [[224]]] (.grp [] [.not 240 (.k 224)] (.grp [] [.cp 256 (.k 240)] (.sel 496 256 .nil (.c (.bool true)) (.grp [] [.cp 272 (.k 48)] (.grp [] [.bin .gtr 288 (.k 272) (.c (.int .i64 (0)))] (.grp [] [.cp 304 (.k 288)] (.sel 480 304 (.grp [] [.cp 320 (.k 0)] (.grp [] [.cp 336 (.k 48)] (.grp [] [.idx (some tI) [352] 0 (.k 320) (.k 336)] (.grp [] [.cp 368 (.k 352)] (.grp [] [.cp 384 (.k 0)] (.grp [] [.cp 400 (.k 48)] (.grp [] [.bin .sub 416 (.k 400) (.c (.int .i64 (1)))] (.grp [] [.idx (some tI) [432] 0 (.k 384) (.k 416)] (.grp [] [.cp 448 (.k 432)] (.grp [] [.bin .lss 464 (.k 368) (.k 448)] .nil)))))))))) (.k 464) .nil (.c (.bool false)) .nil)))) (.k 480) .nil)))))))) (.ite (.k 496) (.ins (.grp [] [.cp 32 (.c (.bool false))] .nil) (.ret [(.bool, [(.k 32)])])) (.ins (.grp [] [.cp 128 (.k 48)] (.grp [] [.bin .add 144 (.k 128) (.c (.int .i64 (1)))] (.grp [] [.cp 48 (.k 144)] .nil))) (.jump 1 [0, 48])))) (.ins (.grp [] [.cp 512 (.k 0)] (.grp [] [.len false 528 (.k 512)] (.grp [] [.bin .leq 544 (.k 528) (.c (.int .i64 (1000)))] (.grp [] [.cp 32 (.k 544)] .nil)))) (.ret [(.bool, [(.k 32)])])))))]
noncomputable def c_spec_l18Times : List Lf.Fn := [n_spec_l1In]
noncomputable def f_spec_l18Times : (List Int) → Option (Bool) := tyd [tLI] [.bool] (fnD (DOf c_spec_l18Times) s_spec_l18Times a_spec_l18Times.L b_spec_l18Times)
noncomputable def n_spec_l18Times : Lf.Fn := ⟨s_spec_l18Times, [tLI], [.bool], f_spec_l18Times⟩
noncomputable def l1_spec_l18Times (v0 : (List Int)) (v48 : Int) : Option (Bool) := (Jl (DOf c_spec_l18Times) (irBlk a_spec_l18Times.L b_spec_l18Times) 1 [⟨tLI, v0⟩, ⟨tI, v48⟩]).bind (readOuts [.bool])
theorem k_spec_l18Times : compFn Try.prog (sigsOf c_spec_l18Times) s_spec_l18Times a_spec_l18Times = some b_spec_l18Times := by kernel_rfl
theorem g_spec_l18Times : Lf.Good Try.prog n_spec_l18Times := good_of (by simp only [c_spec_l18Times, List.mem_singleton]; rintro _ rfl; exact g_spec_l1In) k_spec_l18Times (by kernel_rfl) ⟨Try.f39, by kernel_rfl, by kernel_rfl, by kernel_rfl⟩ [tLI] [.bool]
theorem f_spec_l18Times_eq (x0 : (List Int)) : f_spec_l18Times x0 =
    l1_spec_l18Times x0 (0 : Int) :=
  (show f_spec_l18Times x0 = (Jl (DOf c_spec_l18Times) (irBlk a_spec_l18Times.L b_spec_l18Times) 0 [⟨tLI, x0⟩]).bind (readOuts [.bool]) by kernel_rfl).trans ((Jstep2 (DKOf_eq c_spec_l18Times)).trans (by kernel_rfl))
theorem l1_spec_l18Times_eq (v0 : (List Int)) (v48 : Int) : l1_spec_l18Times v0 v48 =
    bif (decide (v48 < (v0.length : Int))) then
      (at? v0 v48).bind fun z1 =>
      (f_spec_l1In z1 (0 : Int) (10000 : Int)).bind fun z2 =>
      (bif (!z2) then some true else (bif (decide (v48 > (0 : Int))) then (at? v0 v48).bind fun z5 =>
          (at? v0 (IntKind.wrap .i64 (v48 - (1 : Int)))).bind fun z6 =>
          some (decide (z5 < z6)) else some false).bind fun z4 =>
        some z4).bind fun z3 =>
      bif z3 then
        some false
      else
        l1_spec_l18Times v0 (IntKind.wrap .i64 (v48 + (1 : Int)))
    else
      some (decide ((v0.length : Int) ≤ (1000 : Int))) :=
  (show l1_spec_l18Times v0 v48 = (Jl (DOf c_spec_l18Times) (irBlk a_spec_l18Times.L b_spec_l18Times) 1 [⟨tLI, v0⟩, ⟨tI, v48⟩]).bind (readOuts [.bool]) by kernel_rfl).trans ((Jstep2 (DKOf_eq c_spec_l18Times)).trans (by kernel_rfl))
/- loop.example/g01989/spec.IsWindow -/
def s_spec_IsWindow : Sig := ⟨10, [.v tPII], [(.bool, [none])]⟩
def a_spec_IsWindow : FAnn := ⟨[⟨[(0, ⟨0, [], .va⟩), (1, ⟨0, [], .va⟩), (15, ⟨0, [], .pl 2 true⟩)], [0, 1]⟩],
  (.seq (.reg [aT, aT]) (.seq (.reg [aT, aT, aT, aR, aT, aT, aT, aT, aT]) .none)),
  []⟩
def b_spec_IsWindow : List (Nat × Tree) := [(0, (.ins (.grp [] [.cp 16 (.k 0), .cp 17 (.k 1)] (.grp [] [.cp 32 (.c (.bool false))] .nil)) (.ins (.grp [] [.cp 64 (.k 16)] (.grp [] [.call 0 [(tI, [(.k 64)]), (tI, [(.c (.int .i64 (1)))]), (tI, [(.c (.int .i64 (100)))])] [[80]]] (.grp [] [.cp 96 (.k 80)] (.sel 160 96 (.grp [] [.cp 128 (.k 17)] (.grp [] [.call 0 [(tI, [(.k 128)]), (tI, [(.c (.int .i64 (1)))]), (tI, [(.c (.int .i64 (99)))])] [[144]]] .nil)) (.k 144) .nil (.c (.bool false)) (.grp [] [.cp 32 (.k 160)] .nil))))) (.ret [(.bool, [(.k 32)])]))))]
noncomputable def c_spec_IsWindow : List Lf.Fn := [n_spec_l1In]
noncomputable def f_spec_IsWindow : (Int × Int) → Option (Bool) := tyd [tPII] [.bool] (fnD (DOf c_spec_IsWindow) s_spec_IsWindow a_spec_IsWindow.L b_spec_IsWindow)
noncomputable def n_spec_IsWindow : Lf.Fn := ⟨s_spec_IsWindow, [tPII], [.bool], f_spec_IsWindow⟩
theorem k_spec_IsWindow : compFn Try.prog (sigsOf c_spec_IsWindow) s_spec_IsWindow a_spec_IsWindow = some b_spec_IsWindow := by kernel_rfl
theorem g_spec_IsWindow : Lf.Good Try.prog n_spec_IsWindow := good_of (by simp only [c_spec_IsWindow, List.mem_singleton]; rintro _ rfl; exact g_spec_l1In) k_spec_IsWindow (by kernel_rfl) ⟨Try.f10, by kernel_rfl, by kernel_rfl, by kernel_rfl⟩ [tPII] [.bool]
theorem f_spec_IsWindow_eq (x0 : (Int × Int)) : f_spec_IsWindow x0 =
    (f_spec_l1In x0.1 (1 : Int) (100 : Int)).bind fun z1 =>
    (bif z1 then (f_spec_l1In x0.2 (1 : Int) (99 : Int)).bind fun z3 =>
      some z3 else some false).bind fun z2 =>
    some z2 :=
  (show f_spec_IsWindow x0 = (Jl (DOf c_spec_IsWindow) (irBlk a_spec_IsWindow.L b_spec_IsWindow) 0 [⟨tI, x0.1⟩, ⟨tI, x0.2⟩]).bind (readOuts [.bool]) by kernel_rfl).trans ((Jstep2 (DKOf_eq c_spec_IsWindow)).trans (by kernel_rfl))
/- loop.example/g01989/spec.CallsIn -/
def s_spec_CallsIn : Sig := ⟨15, [.v tLI, .v tI, .v tI], [(tI, [none])]⟩
def a_spec_CallsIn : FAnn := ⟨[⟨[(0, ⟨0, [], .va⟩), (15, ⟨0, [], .pl 1 false⟩), (16, ⟨0, [], .va⟩), (31, ⟨0, [], .pl 1 false⟩), (32, ⟨0, [], .va⟩), (47, ⟨0, [], .pl 1 false⟩)], [0, 16, 32]⟩,
    ⟨[(0, ⟨0, [], .va⟩), (15, ⟨0, [], .pl 1 false⟩), (16, ⟨0, [], .va⟩), (31, ⟨0, [], .pl 1 false⟩), (32, ⟨0, [], .va⟩), (47, ⟨0, [], .pl 1 false⟩), (112, ⟨0, [], .va⟩), (127, ⟨0, [], .pl 1 false⟩), (128, ⟨0, [], .va⟩), (143, ⟨0, [], .pl 1 false⟩)], [0, 16, 32, 112, 128]⟩,
    ⟨[(0, ⟨0, [], .va⟩), (15, ⟨0, [], .pl 1 false⟩), (16, ⟨0, [], .va⟩), (31, ⟨0, [], .pl 1 false⟩), (32, ⟨0, [], .va⟩), (47, ⟨0, [], .pl 1 false⟩), (112, ⟨0, [], .va⟩), (127, ⟨0, [], .pl 1 false⟩), (128, ⟨0, [], .va⟩), (143, ⟨0, [], .pl 1 false⟩)], [0, 16, 32, 112, 128]⟩],
  (.seq (.reg [aT]) (.seq (.reg [aT]) (.seq (.seq (.reg [aT]) (.block none (.loop 1 (.seq (.seq (.reg [aR, aR, aT, aT]) (.cond none .none .none)) (.seq (.block none (.seq (.reg [aR, aR, aT, aT, aR, aT, aR, aR, aR, aT, aT, aR, aT, aR, aT, aT, aR, aR, aR, aT, aT, aT, aT, aR, aR, aT, aT]) (.cond (some 2) (.reg [aR, aT, aT]) .none))) (.reg [aR, aT, aT])))))) (.seq (.reg [aR, aT]) .none)))),
  []⟩
def b_spec_CallsIn : List (Nat × Tree) := [(0, (.ins (.grp [] [.cp 96 (.c (.int .i64 (0)))] .nil) (.ins (.grp [] [.cp 112 (.c (.int .i64 (0)))] .nil) (.ins (.grp [] [.cp 128 (.c (.int .i64 (0)))] .nil) (.jump 1 [0, 16, 32, 112, 128]))))),
  (1, (.ins (.grp [] [.cp 144 (.k 128)] (.grp [] [.cp 160 (.k 0)] (.grp [] [.len false 176 (.k 160)] (.grp [] [.bin .lss 192 (.k 144) (.k 176)] .nil)))) (.ite (.k 192) (.ins (.grp [] [.cp 240 (.k 0)] (.grp [] [.cp 256 (.k 128)] (.grp [] [.idx (some tI) [272] 0 (.k 240) (.k 256)] (.grp [] [.cp 288 (.k 272)] (.grp [] [.cp 304 (.k 16)] (.grp [] [.bin .geq 320 (.k 288) (.k 304)] (.grp [] [.cp 336 (.k 320)] (.sel 480 336 (.grp [] [.cp 352 (.k 0)] (.grp [] [.cp 368 (.k 128)] (.grp [] [.idx (some tI) [384] 0 (.k 352) (.k 368)] (.grp [] [.cp 400 (.k 384)] (.grp [] [.cp 416 (.k 16)] (.grp [] [.bin .sub 432 (.k 400) (.k 416)] (.grp [] [.cp 448 (.k 32)] (.grp [] [.bin .lss 464 (.k 432) (.k 448)] .nil)))))))) (.k 464) .nil (.c (.bool false)) (.grp [] [.cp 496 (.k 480)] (.sel 592 496 (.grp [] [.cp 512 (.k 0)] (.grp [] [.cp 528 (.k 128)] (.grp [] [.idx (some tI) [544] 0 (.k 512) (.k 528)] (.grp [] [.cp 560 (.k 544)] (.grp [] [.bin .geq 576 (.k 560) (.c (.int .i64 (0)))] .nil))))) (.k 576) .nil (.c (.bool false)) (.grp [] [.cp 608 (.k 592)] (.sel 656 608 (.grp [] [.cp 624 (.k 16)] (.grp [] [.bin .geq 640 (.k 624) (.c (.int .i64 (0)))] .nil)) (.k 640) .nil (.c (.bool false)) .nil)))))))))))) (.ite (.k 656) (.ins (.grp [] [.cp 672 (.k 112)] (.grp [] [.bin .add 688 (.k 672) (.c (.int .i64 (1)))] (.grp [] [.cp 112 (.k 688)] .nil))) (.jump 2 [0, 16, 32, 112, 128])) (.jump 2 [0, 16, 32, 112, 128]))) (.ins (.grp [] [.cp 704 (.k 112)] (.grp [] [.cp 96 (.k 704)] .nil)) (.ret [(tI, [(.k 96)])]))))),
  (2, (.ins (.grp [] [.cp 208 (.k 128)] (.grp [] [.bin .add 224 (.k 208) (.c (.int .i64 (1)))] (.grp [] [.cp 128 (.k 224)] .nil))) (.jump 1 [0, 16, 32, 112, 128])))]
noncomputable def c_spec_CallsIn : List Lf.Fn := []
noncomputable def f_spec_CallsIn : (List Int) → Int → Int → Option (Int) := tyd [tLI, tI, tI] [tI] (fnD (DOf c_spec_CallsIn) s_spec_CallsIn a_spec_CallsIn.L b_spec_CallsIn)
noncomputable def n_spec_CallsIn : Lf.Fn := ⟨s_spec_CallsIn, [tLI, tI, tI], [tI], f_spec_CallsIn⟩
noncomputable def l1_spec_CallsIn (v0 : (List Int)) (v16 : Int) (v32 : Int) (v112 : Int) (v128 : Int) : Option (Int) := (Jl (DOf c_spec_CallsIn) (irBlk a_spec_CallsIn.L b_spec_CallsIn) 1 [⟨tLI, v0⟩, ⟨tI, v16⟩, ⟨tI, v32⟩, ⟨tI, v112⟩, ⟨tI, v128⟩]).bind (readOuts [tI])
noncomputable def l2_spec_CallsIn (v0 : (List Int)) (v16 : Int) (v32 : Int) (v112 : Int) (v128 : Int) : Option (Int) := (Jl (DOf c_spec_CallsIn) (irBlk a_spec_CallsIn.L b_spec_CallsIn) 2 [⟨tLI, v0⟩, ⟨tI, v16⟩, ⟨tI, v32⟩, ⟨tI, v112⟩, ⟨tI, v128⟩]).bind (readOuts [tI])
theorem k_spec_CallsIn : compFn Try.prog (sigsOf c_spec_CallsIn) s_spec_CallsIn a_spec_CallsIn = some b_spec_CallsIn := by kernel_rfl
theorem g_spec_CallsIn : Lf.Good Try.prog n_spec_CallsIn := good_of (by intro _ h; simp [c_spec_CallsIn] at h) k_spec_CallsIn (by kernel_rfl) ⟨Try.f15, by kernel_rfl, by kernel_rfl, by kernel_rfl⟩ [tLI, tI, tI] [tI]
theorem f_spec_CallsIn_eq (x0 : (List Int)) (x1 : Int) (x2 : Int) : f_spec_CallsIn x0 x1 x2 =
    l1_spec_CallsIn x0 x1 x2 (0 : Int) (0 : Int) :=
  (show f_spec_CallsIn x0 x1 x2 = (Jl (DOf c_spec_CallsIn) (irBlk a_spec_CallsIn.L b_spec_CallsIn) 0 [⟨tLI, x0⟩, ⟨tI, x1⟩, ⟨tI, x2⟩]).bind (readOuts [tI]) by kernel_rfl).trans ((Jstep2 (DKOf_eq c_spec_CallsIn)).trans (by kernel_rfl))
theorem l1_spec_CallsIn_eq (v0 : (List Int)) (v16 : Int) (v32 : Int) (v112 : Int) (v128 : Int) : l1_spec_CallsIn v0 v16 v32 v112 v128 =
    bif (decide (v128 < (v0.length : Int))) then
      (at? v0 v128).bind fun z1 =>
      (bif (decide (z1 ≥ v16)) then (at? v0 v128).bind fun z3 =>
        some (decide ((IntKind.wrap .i64 (z3 - v16)) < v32)) else some false).bind fun z2 =>
      (bif z2 then (at? v0 v128).bind fun z5 =>
        some (decide (z5 ≥ (0 : Int))) else some false).bind fun z4 =>
      (bif z4 then some (decide (v16 ≥ (0 : Int))) else some false).bind fun z6 =>
      bif z6 then
        l2_spec_CallsIn v0 v16 v32 (IntKind.wrap .i64 (v112 + (1 : Int))) v128
      else
        l2_spec_CallsIn v0 v16 v32 v112 v128
    else
      some v112 :=
  (show l1_spec_CallsIn v0 v16 v32 v112 v128 = (Jl (DOf c_spec_CallsIn) (irBlk a_spec_CallsIn.L b_spec_CallsIn) 1 [⟨tLI, v0⟩, ⟨tI, v16⟩, ⟨tI, v32⟩, ⟨tI, v112⟩, ⟨tI, v128⟩]).bind (readOuts [tI]) by kernel_rfl).trans ((Jstep2 (DKOf_eq c_spec_CallsIn)).trans (by kernel_rfl))
theorem l2_spec_CallsIn_eq (v0 : (List Int)) (v16 : Int) (v32 : Int) (v112 : Int) (v128 : Int) : l2_spec_CallsIn v0 v16 v32 v112 v128 =
    l1_spec_CallsIn v0 v16 v32 v112 (IntKind.wrap .i64 (v128 + (1 : Int))) :=
  (show l2_spec_CallsIn v0 v16 v32 v112 v128 = (Jl (DOf c_spec_CallsIn) (irBlk a_spec_CallsIn.L b_spec_CallsIn) 2 [⟨tLI, v0⟩, ⟨tI, v16⟩, ⟨tI, v32⟩, ⟨tI, v112⟩, ⟨tI, v128⟩]).bind (readOuts [tI]) by kernel_rfl).trans ((Jstep2 (DKOf_eq c_spec_CallsIn)).trans (by kernel_rfl))
/- loop.example/g01989/spec.IsKept -/
def s_spec_IsKept : Sig := ⟨21, [.v tLI, .v tPII], [(.bool, [none])]⟩
def a_spec_IsKept : FAnn := ⟨[⟨[(0, ⟨0, [], .va⟩), (15, ⟨0, [], .pl 1 false⟩), (16, ⟨0, [], .va⟩), (17, ⟨0, [], .va⟩), (31, ⟨0, [], .pl 2 true⟩)], [0, 16, 17]⟩,
    ⟨[(0, ⟨0, [], .va⟩), (15, ⟨0, [], .pl 1 false⟩), (48, ⟨0, [], .va⟩), (49, ⟨0, [], .va⟩), (63, ⟨0, [], .bx 2⟩), (80, ⟨0, [], .va⟩), (95, ⟨0, [], .pl 1 false⟩)], [0, 48, 49, 80]⟩],
  (.seq (.reg [aT, aT]) (.seq (.seq (.reg [aR, aT, aT, aR, aT, ⟨.take, 1, []⟩, aT, aT]) (.cond none (.seq (.reg [aT]) .none) .none)) (.seq (.seq (.reg [aT]) (.block none (.loop 1 (.seq (.seq (.reg [aR, aR, aT, aT]) (.cond none .none .none)) (.seq (.block none (.seq (.reg [aR, aR, aR, aT, aT, aT, aT, ⟨.take, 2, []⟩, aT, aT, aT]) (.cond none (.seq (.reg [aT]) .none) .none))) (.reg [aR, aT, aT])))))) (.seq (.reg [aT]) .none)))),
  []⟩
def b_spec_IsKept : List (Nat × Tree) := [(0, (.ins (.grp [] [.cp 48 (.k 16), .cp 49 (.k 17)] (.grp [] [.cp 64 (.c (.bool false))] .nil)) (.ins (.grp [] [.cp 96 (.k 0)] (.grp [] [.call 0 [(tLI, [(.k 96)])] [[112]]] (.grp [] [.not 128 (.k 112)] (.grp [] [.cp 144 (.k 128)] (.sel 208 144 .nil (.c (.bool true)) (.grp [] [.cp 160 (.k 48), .cp 161 (.k 49)] (.grp [] [.call 1 [(tPII, [(.k 160), (.k 161)])] [[176]]] (.grp [] [.not 192 (.k 176)] .nil))) (.k 192) .nil))))) (.ite (.k 208) (.ins (.grp [] [.cp 64 (.c (.bool false))] .nil) (.ret [(.bool, [(.k 64)])])) (.ins (.grp [] [.cp 80 (.c (.int .i64 (0)))] .nil) (.jump 1 [0, 48, 49, 80])))))),
  (1, (.ins (.grp [] [.cp 224 (.k 80)] (.grp [] [.cp 240 (.k 0)] (.grp [] [.len false 256 (.k 240)] (.grp [] [.bin .lss 272 (.k 224) (.k 256)] .nil)))) (.ite (.k 272) (.ins (.grp [] [.cp 320 (.k 0)] (.grp [] [.cp 336 (.k 0)] (.grp [] [.cp 352 (.k 80)] (.grp [] [.idx (some tI) [368] 0 (.k 336) (.k 352)] (.grp [] [.cp 384 (.k 368)] (.grp [] [.cp 416 (.k 48)] (.grp [] [.call 2 [(tLI, [(.k 320)]), (tI, [(.k 384)]), (tI, [(.k 416)])] [[432]]] (.grp [] [.cp 464 (.k 49)] (.grp [] [.bin .gtr 480 (.k 432) (.k 464)] .nil))))))))) (.ite (.k 480) (.ins (.grp [] [.cp 64 (.c (.bool false))] .nil) (.ret [(.bool, [(.k 64)])])) (.ins (.grp [] [.cp 288 (.k 80)] (.grp [] [.bin .add 304 (.k 288) (.c (.int .i64 (1)))] (.grp [] [.cp 80 (.k 304)] .nil))) (.jump 1 [0, 48, 49, 80])))) (.ins (.grp [] [.cp 64 (.c (.bool true))] .nil) (.ret [(.bool, [(.k 64)])])))))]
noncomputable def c_spec_IsKept : List Lf.Fn := [n_spec_l18Times, n_spec_IsWindow, n_spec_CallsIn]
noncomputable def f_spec_IsKept : (List Int) → (Int × Int) → Option (Bool) := tyd [tLI, tPII] [.bool] (fnD (DOf c_spec_IsKept) s_spec_IsKept a_spec_IsKept.L b_spec_IsKept)
noncomputable def n_spec_IsKept : Lf.Fn := ⟨s_spec_IsKept, [tLI, tPII], [.bool], f_spec_IsKept⟩
noncomputable def l1_spec_IsKept (v0 : (List Int)) (v48 : Int) (v49 : Int) (v80 : Int) : Option (Bool) := (Jl (DOf c_spec_IsKept) (irBlk a_spec_IsKept.L b_spec_IsKept) 1 [⟨tLI, v0⟩, ⟨tI, v48⟩, ⟨tI, v49⟩, ⟨tI, v80⟩]).bind (readOuts [.bool])
theorem k_spec_IsKept : compFn Try.prog (sigsOf c_spec_IsKept) s_spec_IsKept a_spec_IsKept = some b_spec_IsKept := by kernel_rfl
theorem g_spec_IsKept : Lf.Good Try.prog n_spec_IsKept := good_of (by simp only [c_spec_IsKept, List.mem_cons, List.not_mem_nil, or_false]; rintro _ (rfl | rfl | rfl); exact g_spec_l18Times; exact g_spec_IsWindow; exact g_spec_CallsIn) k_spec_IsKept (by kernel_rfl) ⟨Try.f21, by kernel_rfl, by kernel_rfl, by kernel_rfl⟩ [tLI, tPII] [.bool]
theorem f_spec_IsKept_eq (x0 : (List Int)) (x1 : (Int × Int)) : f_spec_IsKept x0 x1 =
    (f_spec_l18Times x0).bind fun z1 =>
    (bif (!z1) then some true else (f_spec_IsWindow x1).bind fun z3 =>
      some (!z3)).bind fun z2 =>
    bif z2 then
      some false
    else
      l1_spec_IsKept x0 x1.1 x1.2 (0 : Int) :=
  (show f_spec_IsKept x0 x1 = (Jl (DOf c_spec_IsKept) (irBlk a_spec_IsKept.L b_spec_IsKept) 0 [⟨tLI, x0⟩, ⟨tI, x1.1⟩, ⟨tI, x1.2⟩]).bind (readOuts [.bool]) by kernel_rfl).trans ((Jstep2 (DKOf_eq c_spec_IsKept)).trans (by kernel_rfl))
theorem l1_spec_IsKept_eq (v0 : (List Int)) (v48 : Int) (v49 : Int) (v80 : Int) : l1_spec_IsKept v0 v48 v49 v80 =
    bif (decide (v80 < (v0.length : Int))) then
      (at? v0 v80).bind fun z1 =>
      (f_spec_CallsIn v0 z1 v48).bind fun z2 =>
      bif (decide (z2 > v49)) then
        some false
      else
        l1_spec_IsKept v0 v48 v49 (IntKind.wrap .i64 (v80 + (1 : Int)))
    else
      some true :=
  (show l1_spec_IsKept v0 v48 v49 v80 = (Jl (DOf c_spec_IsKept) (irBlk a_spec_IsKept.L b_spec_IsKept) 1 [⟨tLI, v0⟩, ⟨tI, v48⟩, ⟨tI, v49⟩, ⟨tI, v80⟩]).bind (readOuts [.bool]) by kernel_rfl).trans ((Jstep2 (DKOf_eq c_spec_IsKept)).trans (by kernel_rfl))
/- loop.example/g01989/impl.within -/
def s_impl_within : Sig := ⟨34, [.v tI, .v tI, .v tI], [(.bool, [none])]⟩
def a_impl_within : FAnn := ⟨[⟨[(0, ⟨0, [], .va⟩), (15, ⟨0, [], .pl 1 false⟩), (16, ⟨0, [], .va⟩), (31, ⟨0, [], .pl 1 false⟩), (32, ⟨0, [], .va⟩), (47, ⟨0, [], .pl 1 false⟩)], [0, 16, 32]⟩],
  (.seq (.reg [aT]) (.seq (.reg [aR, aR, aT, aR, aR, aR, aT, aT, aT]) .none)),
  []⟩
def b_impl_within : List (Nat × Tree) := [(0, (.ins (.grp [] [.cp 96 (.c (.bool false))] .nil) (.ins (.grp [] [.cp 112 (.k 0)] (.grp [] [.cp 128 (.k 16)] (.grp [] [.bin .geq 144 (.k 112) (.k 128)] (.grp [] [.cp 160 (.k 144)] (.sel 224 160 (.grp [] [.cp 176 (.k 0)] (.grp [] [.cp 192 (.k 32)] (.grp [] [.bin .leq 208 (.k 176) (.k 192)] .nil))) (.k 208) .nil (.c (.bool false)) (.grp [] [.cp 96 (.k 224)] .nil)))))) (.ret [(.bool, [(.k 96)])]))))]
noncomputable def c_impl_within : List Lf.Fn := []
noncomputable def f_impl_within : Int → Int → Int → Option (Bool) := tyd [tI, tI, tI] [.bool] (fnD (DOf c_impl_within) s_impl_within a_impl_within.L b_impl_within)
noncomputable def n_impl_within : Lf.Fn := ⟨s_impl_within, [tI, tI, tI], [.bool], f_impl_within⟩
theorem k_impl_within : compFn Try.prog (sigsOf c_impl_within) s_impl_within a_impl_within = some b_impl_within := by kernel_rfl
theorem g_impl_within : Lf.Good Try.prog n_impl_within := good_of (by intro _ h; simp [c_impl_within] at h) k_impl_within (by kernel_rfl) ⟨Try.f34, by kernel_rfl, by kernel_rfl, by kernel_rfl⟩ [tI, tI, tI] [.bool]
theorem f_impl_within_eq (x0 : Int) (x1 : Int) (x2 : Int) : f_impl_within x0 x1 x2 =
    (bif (decide (x0 ≥ x1)) then some (decide (x0 ≤ x2)) else some false).bind fun z1 =>
    some z1 :=
  (show f_impl_within x0 x1 x2 = (Jl (DOf c_impl_within) (irBlk a_impl_within.L b_impl_within) 0 [⟨tI, x0⟩, ⟨tI, x1⟩, ⟨tI, x2⟩]).bind (readOuts [.bool]) by kernel_rfl).trans ((Jstep2 (DKOf_eq c_impl_within)).trans (by kernel_rfl))
/- loop.example/g01989/impl.IsWindow -/
def s_impl_IsWindow : Sig := ⟨12, [.v tPII], [(.bool, [none])]⟩
def a_impl_IsWindow : FAnn := ⟨[⟨[(0, ⟨0, [], .va⟩), (1, ⟨0, [], .va⟩), (15, ⟨0, [], .pl 2 true⟩)], [0, 1]⟩],
  (.seq (.reg [aT, aT]) (.seq (.reg [aT, aT, aT, aR, aT, aT, aT, aT, aT]) .none)),
  []⟩
def b_impl_IsWindow : List (Nat × Tree) := [(0, (.ins (.grp [] [.cp 16 (.k 0), .cp 17 (.k 1)] (.grp [] [.cp 32 (.c (.bool false))] .nil)) (.ins (.grp [] [.cp 64 (.k 16)] (.grp [] [.call 0 [(tI, [(.k 64)]), (tI, [(.c (.int .i64 (1)))]), (tI, [(.c (.int .i64 (100)))])] [[80]]] (.grp [] [.cp 96 (.k 80)] (.sel 160 96 (.grp [] [.cp 128 (.k 17)] (.grp [] [.call 0 [(tI, [(.k 128)]), (tI, [(.c (.int .i64 (1)))]), (tI, [(.c (.int .i64 (99)))])] [[144]]] .nil)) (.k 144) .nil (.c (.bool false)) (.grp [] [.cp 32 (.k 160)] .nil))))) (.ret [(.bool, [(.k 32)])]))))]
noncomputable def c_impl_IsWindow : List Lf.Fn := [n_impl_within]
noncomputable def f_impl_IsWindow : (Int × Int) → Option (Bool) := tyd [tPII] [.bool] (fnD (DOf c_impl_IsWindow) s_impl_IsWindow a_impl_IsWindow.L b_impl_IsWindow)
noncomputable def n_impl_IsWindow : Lf.Fn := ⟨s_impl_IsWindow, [tPII], [.bool], f_impl_IsWindow⟩
theorem k_impl_IsWindow : compFn Try.prog (sigsOf c_impl_IsWindow) s_impl_IsWindow a_impl_IsWindow = some b_impl_IsWindow := by kernel_rfl
theorem g_impl_IsWindow : Lf.Good Try.prog n_impl_IsWindow := good_of (by simp only [c_impl_IsWindow, List.mem_singleton]; rintro _ rfl; exact g_impl_within) k_impl_IsWindow (by kernel_rfl) ⟨Try.f12, by kernel_rfl, by kernel_rfl, by kernel_rfl⟩ [tPII] [.bool]
theorem f_impl_IsWindow_eq (x0 : (Int × Int)) : f_impl_IsWindow x0 =
    (f_impl_within x0.1 (1 : Int) (100 : Int)).bind fun z1 =>
    (bif z1 then (f_impl_within x0.2 (1 : Int) (99 : Int)).bind fun z3 =>
      some z3 else some false).bind fun z2 =>
    some z2 :=
  (show f_impl_IsWindow x0 = (Jl (DOf c_impl_IsWindow) (irBlk a_impl_IsWindow.L b_impl_IsWindow) 0 [⟨tI, x0.1⟩, ⟨tI, x0.2⟩]).bind (readOuts [.bool]) by kernel_rfl).trans ((Jstep2 (DKOf_eq c_impl_IsWindow)).trans (by kernel_rfl))
/- loop.example/g01989/impl.isTime -/
def s_impl_isTime : Sig := ⟨40, [.v tI], [(.bool, [none])]⟩
def a_impl_isTime : FAnn := ⟨[⟨[(0, ⟨0, [], .va⟩), (15, ⟨0, [], .pl 1 false⟩)], [0]⟩],
  (.seq (.reg [aT]) (.seq (.reg [aR, aT, aT]) .none)),
  []⟩
def b_impl_isTime : List (Nat × Tree) := [(0, (.ins (.grp [] [.cp 32 (.c (.bool false))] .nil) (.ins (.grp [] [.cp 48 (.k 0)] (.grp [] [.call 0 [(tI, [(.k 48)]), (tI, [(.c (.int .i64 (0)))]), (tI, [(.c (.int .i64 (10000)))])] [[64]]] (.grp [] [.cp 32 (.k 64)] .nil))) (.ret [(.bool, [(.k 32)])]))))]
noncomputable def c_impl_isTime : List Lf.Fn := [n_impl_within]
noncomputable def f_impl_isTime : Int → Option (Bool) := tyd [tI] [.bool] (fnD (DOf c_impl_isTime) s_impl_isTime a_impl_isTime.L b_impl_isTime)
noncomputable def n_impl_isTime : Lf.Fn := ⟨s_impl_isTime, [tI], [.bool], f_impl_isTime⟩
theorem k_impl_isTime : compFn Try.prog (sigsOf c_impl_isTime) s_impl_isTime a_impl_isTime = some b_impl_isTime := by kernel_rfl
theorem g_impl_isTime : Lf.Good Try.prog n_impl_isTime := good_of (by simp only [c_impl_isTime, List.mem_singleton]; rintro _ rfl; exact g_impl_within) k_impl_isTime (by kernel_rfl) ⟨Try.f40, by kernel_rfl, by kernel_rfl, by kernel_rfl⟩ [tI] [.bool]
theorem f_impl_isTime_eq (x0 : Int) : f_impl_isTime x0 =
    (f_impl_within x0 (0 : Int) (10000 : Int)).bind fun z1 =>
    some z1 :=
  (show f_impl_isTime x0 = (Jl (DOf c_impl_isTime) (irBlk a_impl_isTime.L b_impl_isTime) 0 [⟨tI, x0⟩]).bind (readOuts [.bool]) by kernel_rfl).trans ((Jstep2 (DKOf_eq c_impl_isTime)).trans (by kernel_rfl))
/- loop.example/g01989/impl.bit -/
def s_impl_bit : Sig := ⟨36, [.v .bool], [(tI, [none])]⟩
def a_impl_bit : FAnn := ⟨[⟨[(0, ⟨0, [], .va⟩), (15, ⟨0, [], .pl 1 false⟩)], [0]⟩],
  (.seq (.reg [aT]) (.seq (.seq (.reg [aR]) (.cond none (.seq (.reg [aT]) .none) .none)) (.seq (.reg [aT]) .none))),
  []⟩
def b_impl_bit : List (Nat × Tree) := [(0, (.ins (.grp [] [.cp 32 (.c (.int .i64 (0)))] .nil) (.ins (.grp [] [.cp 48 (.k 0)] .nil) (.ite (.k 48) (.ins (.grp [] [.cp 32 (.c (.int .i64 (1)))] .nil) (.ret [(tI, [(.k 32)])])) (.ins (.grp [] [.cp 32 (.c (.int .i64 (0)))] .nil) (.ret [(tI, [(.k 32)])]))))))]
noncomputable def c_impl_bit : List Lf.Fn := []
noncomputable def f_impl_bit : Bool → Option (Int) := tyd [.bool] [tI] (fnD (DOf c_impl_bit) s_impl_bit a_impl_bit.L b_impl_bit)
noncomputable def n_impl_bit : Lf.Fn := ⟨s_impl_bit, [.bool], [tI], f_impl_bit⟩
theorem k_impl_bit : compFn Try.prog (sigsOf c_impl_bit) s_impl_bit a_impl_bit = some b_impl_bit := by kernel_rfl
theorem g_impl_bit : Lf.Good Try.prog n_impl_bit := good_of (by intro _ h; simp [c_impl_bit] at h) k_impl_bit (by kernel_rfl) ⟨Try.f36, by kernel_rfl, by kernel_rfl, by kernel_rfl⟩ [.bool] [tI]
theorem f_impl_bit_eq (x0 : Bool) : f_impl_bit x0 =
    bif x0 then
      some (1 : Int)
    else
      some (0 : Int) :=
  (show f_impl_bit x0 = (Jl (DOf c_impl_bit) (irBlk a_impl_bit.L b_impl_bit) 0 [⟨.bool, x0⟩]).bind (readOuts [tI]) by kernel_rfl).trans ((Jstep2 (DKOf_eq c_impl_bit)).trans (by kernel_rfl))
/- loop.example/g01989/impl.CallsIn -/
def s_impl_CallsIn : Sig := ⟨17, [.v tLI, .v tI, .v tI], [(tI, [none])]⟩
def a_impl_CallsIn : FAnn := ⟨[⟨[(0, ⟨0, [], .va⟩), (15, ⟨0, [], .pl 1 false⟩), (16, ⟨0, [], .va⟩), (31, ⟨0, [], .pl 1 false⟩), (32, ⟨0, [], .va⟩), (47, ⟨0, [], .pl 1 false⟩)], [0, 16, 32]⟩,
    ⟨[(16, ⟨0, [], .va⟩), (31, ⟨0, [], .pl 1 false⟩), (32, ⟨0, [], .va⟩), (47, ⟨0, [], .pl 1 false⟩), (112, ⟨0, [], .va⟩), (127, ⟨0, [], .pl 1 false⟩), (160, ⟨0, [], .va⟩), (175, ⟨0, [], .pl 1 false⟩), (176, ⟨0, [], .va⟩), (191, ⟨0, [], .pl 1 false⟩), (192, ⟨0, [], .va⟩), (207, ⟨0, [], .pl 1 false⟩)], [16, 32, 112, 160, 176, 192]⟩],
  (.seq (.reg [aT]) (.seq (.reg [aT]) (.seq (.seq (.reg [aR, aT, aR]) (.block none (.loop 1 (.seq (.reg [aT]) (.seq (.cond none .none .none) (.seq (.block none (.seq (.reg [aT, aT, aT]) (.reg [aR, aR, aT, aR, aR, aR, aT, aT, aR, aR, aR, aT, aR, aT, aT, aT, aT, aT]))) (.reg [aT, aR]))))))) (.seq (.reg [aR, aT]) .none)))),
  []⟩
def b_impl_CallsIn : List (Nat × Tree) := [(0, (.ins (.grp [] [.cp 96 (.c (.int .i64 (0)))] .nil) (.ins (.grp [] [.cp 112 (.c (.int .i64 (0)))] .nil) (.ins (.grp [] [.cp 160 (.k 0)] (.grp [] [.len false 176 (.k 160)] (.grp [] [.cp 192 (.c (.int .i64 (0)))] .nil))) (.jump 1 [16, 32, 112, 160, 176, 192]))))),
  (1, (.ins (.grp [] [.bin .lss 208 (.k 192) (.k 176)] .nil) (.ite (.k 208) (.ins (.grp [] [.idx (some tI) [224] 0 (.k 160) (.k 192)] (.grp [] [.cp 240 (.k 224)] (.grp [] [.cp 144 (.k 240)] .nil))) (.ins (.grp [] [.cp 256 (.k 112)] (.grp [] [.cp 272 (.k 16)] (.grp [] [.bin .geq 288 (.k 272) (.c (.int .i64 (0)))] (.grp [] [.cp 304 (.k 288)] (.sel 368 304 (.grp [] [.cp 320 (.k 144)] (.grp [] [.cp 336 (.k 16)] (.grp [] [.bin .geq 352 (.k 320) (.k 336)] .nil))) (.k 352) .nil (.c (.bool false)) (.grp [] [.cp 384 (.k 368)] (.sel 480 384 (.grp [] [.cp 400 (.k 144)] (.grp [] [.cp 416 (.k 16)] (.grp [] [.bin .sub 432 (.k 400) (.k 416)] (.grp [] [.cp 448 (.k 32)] (.grp [] [.bin .lss 464 (.k 432) (.k 448)] .nil))))) (.k 464) .nil (.c (.bool false)) (.grp [] [.call 0 [(.bool, [(.k 480)])] [[496]]] (.grp [] [.bin .add 512 (.k 256) (.k 496)] (.grp [] [.cp 112 (.k 512)] .nil)))))))))) (.ins (.grp [] [.bin .add 528 (.k 192) (.c (.int .i64 (1)))] (.grp [] [.cp 192 (.k 528)] .nil)) (.jump 1 [16, 32, 112, 160, 176, 192])))) (.ins (.grp [] [.cp 544 (.k 112)] (.grp [] [.cp 96 (.k 544)] .nil)) (.ret [(tI, [(.k 96)])])))))]
noncomputable def c_impl_CallsIn : List Lf.Fn := [n_impl_bit]
noncomputable def f_impl_CallsIn : (List Int) → Int → Int → Option (Int) := tyd [tLI, tI, tI] [tI] (fnD (DOf c_impl_CallsIn) s_impl_CallsIn a_impl_CallsIn.L b_impl_CallsIn)
noncomputable def n_impl_CallsIn : Lf.Fn := ⟨s_impl_CallsIn, [tLI, tI, tI], [tI], f_impl_CallsIn⟩
noncomputable def l1_impl_CallsIn (v16 : Int) (v32 : Int) (v112 : Int) (v160 : (List Int)) (v176 : Int) (v192 : Int) : Option (Int) := (Jl (DOf c_impl_CallsIn) (irBlk a_impl_CallsIn.L b_impl_CallsIn) 1 [⟨tI, v16⟩, ⟨tI, v32⟩, ⟨tI, v112⟩, ⟨tLI, v160⟩, ⟨tI, v176⟩, ⟨tI, v192⟩]).bind (readOuts [tI])
theorem k_impl_CallsIn : compFn Try.prog (sigsOf c_impl_CallsIn) s_impl_CallsIn a_impl_CallsIn = some b_impl_CallsIn := by kernel_rfl
theorem g_impl_CallsIn : Lf.Good Try.prog n_impl_CallsIn := good_of (by simp only [c_impl_CallsIn, List.mem_singleton]; rintro _ rfl; exact g_impl_bit) k_impl_CallsIn (by kernel_rfl) ⟨Try.f17, by kernel_rfl, by kernel_rfl, by kernel_rfl⟩ [tLI, tI, tI] [tI]
theorem f_impl_CallsIn_eq (x0 : (List Int)) (x1 : Int) (x2 : Int) : f_impl_CallsIn x0 x1 x2 =
    l1_impl_CallsIn x1 x2 (0 : Int) x0 (x0.length : Int) (0 : Int) :=
  (show f_impl_CallsIn x0 x1 x2 = (Jl (DOf c_impl_CallsIn) (irBlk a_impl_CallsIn.L b_impl_CallsIn) 0 [⟨tLI, x0⟩, ⟨tI, x1⟩, ⟨tI, x2⟩]).bind (readOuts [tI]) by kernel_rfl).trans ((Jstep2 (DKOf_eq c_impl_CallsIn)).trans (by kernel_rfl))
theorem l1_impl_CallsIn_eq (v16 : Int) (v32 : Int) (v112 : Int) (v160 : (List Int)) (v176 : Int) (v192 : Int) : l1_impl_CallsIn v16 v32 v112 v160 v176 v192 =
    bif (decide (v192 < v176)) then
      (at? v160 v192).bind fun z1 =>
      (bif (decide (v16 ≥ (0 : Int))) then some (decide (z1 ≥ v16)) else some false).bind fun z2 =>
      (bif z2 then some (decide ((IntKind.wrap .i64 (z1 - v16)) < v32)) else some false).bind fun z3 =>
      (f_impl_bit z3).bind fun z4 =>
      l1_impl_CallsIn v16 v32 (IntKind.wrap .i64 (v112 + z4)) v160 v176 (IntKind.wrap .i64 (v192 + (1 : Int)))
    else
      some v112 :=
  (show l1_impl_CallsIn v16 v32 v112 v160 v176 v192 = (Jl (DOf c_impl_CallsIn) (irBlk a_impl_CallsIn.L b_impl_CallsIn) 1 [⟨tI, v16⟩, ⟨tI, v32⟩, ⟨tI, v112⟩, ⟨tLI, v160⟩, ⟨tI, v176⟩, ⟨tI, v192⟩]).bind (readOuts [tI]) by kernel_rfl).trans ((Jstep2 (DKOf_eq c_impl_CallsIn)).trans (by kernel_rfl))
/- loop.example/g01989/impl.IsKept -/
def s_impl_IsKept : Sig := ⟨22, [.v tLI, .v tPII], [(.bool, [none])]⟩
def a_impl_IsKept : FAnn := ⟨[⟨[(0, ⟨0, [], .va⟩), (15, ⟨0, [], .pl 1 false⟩), (16, ⟨0, [], .va⟩), (17, ⟨0, [], .va⟩), (31, ⟨0, [], .pl 2 true⟩)], [0, 16, 17]⟩,
    ⟨[(0, ⟨0, [], .va⟩), (15, ⟨0, [], .pl 1 false⟩), (48, ⟨0, [], .va⟩), (49, ⟨0, [], .va⟩), (63, ⟨0, [], .bx 2⟩), (240, ⟨0, [], .va⟩), (255, ⟨0, [], .pl 1 false⟩), (256, ⟨0, [], .va⟩), (271, ⟨0, [], .pl 1 false⟩), (272, ⟨0, [], .va⟩), (287, ⟨0, [], .pl 1 false⟩)], [0, 48, 49, 240, 256, 272]⟩],
  (.seq (.reg [aT, aT]) (.seq (.seq (.reg [aR, aT, aT, aR, aT, aT, aT, aT]) (.cond none (.seq (.reg [aT]) .none) .none)) (.seq (.seq (.reg [aR, aT, aR]) (.block none (.loop 1 (.seq (.reg [aT]) (.seq (.cond none .none .none) (.seq (.block none (.seq (.reg [aR, aT, aT, aT, aT]) (.seq (.reg [aR, ⟨.take, 1, []⟩, aT, aR, aR, aT, aR, aR, aR, aR, aT, aT, aT, aT, aT, aT, aR, aR, aR, aT, aT, ⟨.take, 2, []⟩, aT, aT, aT, aT]) (.cond none (.seq (.reg [aT]) .none) .none)))) (.reg [aT, aR]))))))) (.seq (.reg [aT]) .none)))),
  []⟩
def b_impl_IsKept : List (Nat × Tree) := [(0, (.ins (.grp [] [.cp 48 (.k 16), .cp 49 (.k 17)] (.grp [] [.cp 64 (.c (.bool false))] .nil)) (.ins (.grp [] [.cp 112 (.k 0)] (.grp [] [.len false 128 (.k 112)] (.grp [] [.bin .gtr 144 (.k 128) (.c (.int .i64 (1000)))] (.grp [] [.cp 160 (.k 144)] (.sel 224 160 .nil (.c (.bool true)) (.grp [] [.cp 176 (.k 48), .cp 177 (.k 49)] (.grp [] [.call 0 [(tPII, [(.k 176), (.k 177)])] [[192]]] (.grp [] [.not 208 (.k 192)] .nil))) (.k 208) .nil))))) (.ite (.k 224) (.ins (.grp [] [.cp 64 (.c (.bool false))] .nil) (.ret [(.bool, [(.k 64)])])) (.ins (.grp [] [.cp 240 (.k 0)] (.grp [] [.len false 256 (.k 240)] (.grp [] [.cp 272 (.c (.int .i64 (0)))] .nil))) (.jump 1 [0, 48, 49, 240, 256, 272])))))),
  (1, (.ins (.grp [] [.bin .lss 288 (.k 272) (.k 256)] .nil) (.ite (.k 288) (.ins (.grp [] [.cp 304 (.k 272)] (.grp [] [.idx (some tI) [320] 0 (.k 240) (.k 272)] (.grp [] [.cp 336 (.k 320)] (.grp [] [.cp 80 (.k 304)] (.grp [] [.cp 96 (.k 336)] .nil))))) (.ins (.grp [] [.cp 352 (.k 96)] (.grp [] [.call 1 [(tI, [(.k 352)])] [[368]]] (.grp [] [.not 384 (.k 368)] (.grp [] [.cp 400 (.k 384)] (.sel 592 400 .nil (.c (.bool true)) (.grp [] [.cp 416 (.k 80)] (.grp [] [.bin .gtr 432 (.k 416) (.c (.int .i64 (0)))] (.grp [] [.cp 448 (.k 432)] (.sel 576 448 (.grp [] [.cp 464 (.k 96)] (.grp [] [.cp 480 (.k 0)] (.grp [] [.cp 496 (.k 80)] (.grp [] [.bin .sub 512 (.k 496) (.c (.int .i64 (1)))] (.grp [] [.idx (some tI) [528] 0 (.k 480) (.k 512)] (.grp [] [.cp 544 (.k 528)] (.grp [] [.bin .lss 560 (.k 464) (.k 544)] .nil))))))) (.k 560) .nil (.c (.bool false)) .nil)))) (.k 576) (.grp [] [.cp 608 (.k 592)] (.sel 752 608 .nil (.c (.bool true)) (.grp [] [.cp 624 (.k 0)] (.grp [] [.cp 640 (.k 96)] (.grp [] [.cp 672 (.k 48)] (.grp [] [.call 2 [(tLI, [(.k 624)]), (tI, [(.k 640)]), (tI, [(.k 672)])] [[688]]] (.grp [] [.cp 720 (.k 49)] (.grp [] [.bin .gtr 736 (.k 688) (.k 720)] .nil)))))) (.k 736) .nil))))))) (.ite (.k 752) (.ins (.grp [] [.cp 64 (.c (.bool false))] .nil) (.ret [(.bool, [(.k 64)])])) (.ins (.grp [] [.bin .add 768 (.k 272) (.c (.int .i64 (1)))] (.grp [] [.cp 272 (.k 768)] .nil)) (.jump 1 [0, 48, 49, 240, 256, 272]))))) (.ins (.grp [] [.cp 64 (.c (.bool true))] .nil) (.ret [(.bool, [(.k 64)])])))))]
noncomputable def c_impl_IsKept : List Lf.Fn := [n_impl_IsWindow, n_impl_isTime, n_impl_CallsIn]
noncomputable def f_impl_IsKept : (List Int) → (Int × Int) → Option (Bool) := tyd [tLI, tPII] [.bool] (fnD (DOf c_impl_IsKept) s_impl_IsKept a_impl_IsKept.L b_impl_IsKept)
noncomputable def n_impl_IsKept : Lf.Fn := ⟨s_impl_IsKept, [tLI, tPII], [.bool], f_impl_IsKept⟩
noncomputable def l1_impl_IsKept (v0 : (List Int)) (v48 : Int) (v49 : Int) (v240 : (List Int)) (v256 : Int) (v272 : Int) : Option (Bool) := (Jl (DOf c_impl_IsKept) (irBlk a_impl_IsKept.L b_impl_IsKept) 1 [⟨tLI, v0⟩, ⟨tI, v48⟩, ⟨tI, v49⟩, ⟨tLI, v240⟩, ⟨tI, v256⟩, ⟨tI, v272⟩]).bind (readOuts [.bool])
theorem k_impl_IsKept : compFn Try.prog (sigsOf c_impl_IsKept) s_impl_IsKept a_impl_IsKept = some b_impl_IsKept := by kernel_rfl
theorem g_impl_IsKept : Lf.Good Try.prog n_impl_IsKept := good_of (by simp only [c_impl_IsKept, List.mem_cons, List.not_mem_nil, or_false]; rintro _ (rfl | rfl | rfl); exact g_impl_IsWindow; exact g_impl_isTime; exact g_impl_CallsIn) k_impl_IsKept (by kernel_rfl) ⟨Try.f22, by kernel_rfl, by kernel_rfl, by kernel_rfl⟩ [tLI, tPII] [.bool]
theorem f_impl_IsKept_eq (x0 : (List Int)) (x1 : (Int × Int)) : f_impl_IsKept x0 x1 =
    (bif (decide ((x0.length : Int) > (1000 : Int))) then some true else (f_impl_IsWindow x1).bind fun z2 =>
      some (!z2)).bind fun z1 =>
    bif z1 then
      some false
    else
      l1_impl_IsKept x0 x1.1 x1.2 x0 (x0.length : Int) (0 : Int) :=
  (show f_impl_IsKept x0 x1 = (Jl (DOf c_impl_IsKept) (irBlk a_impl_IsKept.L b_impl_IsKept) 0 [⟨tLI, x0⟩, ⟨tI, x1.1⟩, ⟨tI, x1.2⟩]).bind (readOuts [.bool]) by kernel_rfl).trans ((Jstep2 (DKOf_eq c_impl_IsKept)).trans (by kernel_rfl))
theorem l1_impl_IsKept_eq (v0 : (List Int)) (v48 : Int) (v49 : Int) (v240 : (List Int)) (v256 : Int) (v272 : Int) : l1_impl_IsKept v0 v48 v49 v240 v256 v272 =
    bif (decide (v272 < v256)) then
      (at? v240 v272).bind fun z1 =>
      (f_impl_isTime z1).bind fun z2 =>
      (bif (!z2) then some true else (bif (decide (v272 > (0 : Int))) then (at? v0 (IntKind.wrap .i64 (v272 - (1 : Int)))).bind fun z5 =>
          some (decide (z1 < z5)) else some false).bind fun z4 =>
        some z4).bind fun z3 =>
      (bif z3 then some true else (f_impl_CallsIn v0 z1 v48).bind fun z7 =>
        some (decide (z7 > v49))).bind fun z6 =>
      bif z6 then
        some false
      else
        l1_impl_IsKept v0 v48 v49 v240 v256 (IntKind.wrap .i64 (v272 + (1 : Int)))
    else
      some true :=
  (show l1_impl_IsKept v0 v48 v49 v240 v256 v272 = (Jl (DOf c_impl_IsKept) (irBlk a_impl_IsKept.L b_impl_IsKept) 1 [⟨tLI, v0⟩, ⟨tI, v48⟩, ⟨tI, v49⟩, ⟨tLI, v240⟩, ⟨tI, v256⟩, ⟨tI, v272⟩]).bind (readOuts [.bool]) by kernel_rfl).trans ((Jstep2 (DKOf_eq c_impl_IsKept)).trans (by kernel_rfl))
/- loop.example/g01989/laws.eqIntS -/
def s_laws_eqIntS : Sig := ⟨18, [.v tLI, .v tLI], [(.bool, [none])]⟩
def a_laws_eqIntS : FAnn := ⟨[⟨[(0, ⟨0, [], .va⟩), (15, ⟨0, [], .pl 1 false⟩), (16, ⟨0, [], .va⟩), (31, ⟨0, [], .pl 1 false⟩)], [0, 16]⟩,
    ⟨[(0, ⟨0, [], .va⟩), (15, ⟨0, [], .pl 1 false⟩), (16, ⟨0, [], .va⟩), (31, ⟨0, [], .pl 1 false⟩), (80, ⟨0, [], .va⟩), (95, ⟨0, [], .pl 1 false⟩)], [0, 16, 80]⟩],
  (.seq (.reg [aT]) (.seq (.seq (.reg [aR, aT, aR, aT, aT]) (.cond none (.seq (.reg [aT]) .none) .none)) (.seq (.seq (.reg [aT]) (.block none (.loop 1 (.seq (.seq (.reg [aR, aR, aT, aT]) (.cond none .none .none)) (.seq (.block none (.seq (.reg [aR, aR, aT, aT, aR, aR, aT, aT, aT]) (.cond none (.seq (.reg [aT]) .none) .none))) (.reg [aR, aT, aT])))))) (.seq (.reg [aT]) .none)))),
  []⟩
def b_laws_eqIntS : List (Nat × Tree) := [(0, (.ins (.grp [] [.cp 64 (.c (.bool false))] .nil) (.ins (.grp [] [.cp 96 (.k 0)] (.grp [] [.len false 112 (.k 96)] (.grp [] [.cp 128 (.k 16)] (.grp [] [.len false 144 (.k 128)] (.grp [] [.bin .neq 160 (.k 112) (.k 144)] .nil))))) (.ite (.k 160) (.ins (.grp [] [.cp 64 (.c (.bool false))] .nil) (.ret [(.bool, [(.k 64)])])) (.ins (.grp [] [.cp 80 (.c (.int .i64 (0)))] .nil) (.jump 1 [0, 16, 80])))))),
  (1, (.ins (.grp [] [.cp 176 (.k 80)] (.grp [] [.cp 192 (.k 0)] (.grp [] [.len false 208 (.k 192)] (.grp [] [.bin .lss 224 (.k 176) (.k 208)] .nil)))) (.ite (.k 224) (.ins (.grp [] [.cp 272 (.k 0)] (.grp [] [.cp 288 (.k 80)] (.grp [] [.idx (some tI) [304] 0 (.k 272) (.k 288)] (.grp [] [.cp 320 (.k 304)] (.grp [] [.cp 336 (.k 16)] (.grp [] [.cp 352 (.k 80)] (.grp [] [.idx (some tI) [368] 0 (.k 336) (.k 352)] (.grp [] [.cp 384 (.k 368)] (.grp [] [.bin .neq 400 (.k 320) (.k 384)] .nil))))))))) (.ite (.k 400) (.ins (.grp [] [.cp 64 (.c (.bool false))] .nil) (.ret [(.bool, [(.k 64)])])) (.ins (.grp [] [.cp 240 (.k 80)] (.grp [] [.bin .add 256 (.k 240) (.c (.int .i64 (1)))] (.grp [] [.cp 80 (.k 256)] .nil))) (.jump 1 [0, 16, 80])))) (.ins (.grp [] [.cp 64 (.c (.bool true))] .nil) (.ret [(.bool, [(.k 64)])])))))]
noncomputable def c_laws_eqIntS : List Lf.Fn := []
noncomputable def f_laws_eqIntS : (List Int) → (List Int) → Option (Bool) := tyd [tLI, tLI] [.bool] (fnD (DOf c_laws_eqIntS) s_laws_eqIntS a_laws_eqIntS.L b_laws_eqIntS)
noncomputable def n_laws_eqIntS : Lf.Fn := ⟨s_laws_eqIntS, [tLI, tLI], [.bool], f_laws_eqIntS⟩
noncomputable def l1_laws_eqIntS (v0 : (List Int)) (v16 : (List Int)) (v80 : Int) : Option (Bool) := (Jl (DOf c_laws_eqIntS) (irBlk a_laws_eqIntS.L b_laws_eqIntS) 1 [⟨tLI, v0⟩, ⟨tLI, v16⟩, ⟨tI, v80⟩]).bind (readOuts [.bool])
theorem k_laws_eqIntS : compFn Try.prog (sigsOf c_laws_eqIntS) s_laws_eqIntS a_laws_eqIntS = some b_laws_eqIntS := by kernel_rfl
theorem g_laws_eqIntS : Lf.Good Try.prog n_laws_eqIntS := good_of (by intro _ h; simp [c_laws_eqIntS] at h) k_laws_eqIntS (by kernel_rfl) ⟨Try.f18, by kernel_rfl, by kernel_rfl, by kernel_rfl⟩ [tLI, tLI] [.bool]
theorem f_laws_eqIntS_eq (x0 : (List Int)) (x1 : (List Int)) : f_laws_eqIntS x0 x1 =
    bif ((x0.length : Int) != (x1.length : Int)) then
      some false
    else
      l1_laws_eqIntS x0 x1 (0 : Int) :=
  (show f_laws_eqIntS x0 x1 = (Jl (DOf c_laws_eqIntS) (irBlk a_laws_eqIntS.L b_laws_eqIntS) 0 [⟨tLI, x0⟩, ⟨tLI, x1⟩]).bind (readOuts [.bool]) by kernel_rfl).trans ((Jstep2 (DKOf_eq c_laws_eqIntS)).trans (by kernel_rfl))
theorem l1_laws_eqIntS_eq (v0 : (List Int)) (v16 : (List Int)) (v80 : Int) : l1_laws_eqIntS v0 v16 v80 =
    bif (decide (v80 < (v0.length : Int))) then
      (at? v0 v80).bind fun z1 =>
      (at? v16 v80).bind fun z2 =>
      bif (z1 != z2) then
        some false
      else
        l1_laws_eqIntS v0 v16 (IntKind.wrap .i64 (v80 + (1 : Int)))
    else
      some true :=
  (show l1_laws_eqIntS v0 v16 v80 = (Jl (DOf c_laws_eqIntS) (irBlk a_laws_eqIntS.L b_laws_eqIntS) 1 [⟨tLI, v0⟩, ⟨tLI, v16⟩, ⟨tI, v80⟩]).bind (readOuts [.bool]) by kernel_rfl).trans ((Jstep2 (DKOf_eq c_laws_eqIntS)).trans (by kernel_rfl))
/- loop.example/g01989/laws.FnExactIsKept -/
def s_laws_FnExactIsKept : Sig := ⟨7, [.v tLI, .v tPII], [(.bool, [none])]⟩
def a_laws_FnExactIsKept : FAnn := ⟨[⟨[(0, ⟨0, [], .va⟩), (15, ⟨0, [], .pl 1 false⟩), (16, ⟨0, [], .va⟩), (17, ⟨0, [], .va⟩), (31, ⟨0, [], .pl 2 true⟩)], [0, 16, 17]⟩],
  (.seq (.reg [aT, aT]) (.seq (.seq (.reg [aR, aT, aT]) (.cond none (.seq (.reg [aT]) .none) .none)) (.seq (.reg [aR, aT, aT, ⟨.take, 1, []⟩, ⟨.take, 2, []⟩, aT]) (.seq (.reg [aR, aT, aT]) (.seq (.reg [aR, aT, ⟨.take, 1, []⟩, ⟨.take, 3, []⟩, aT]) (.seq (.seq (.reg [aR, aR, aT]) (.cond none (.seq (.reg [aT]) .none) .none)) (.seq (.seq (.reg [aR, aR, aT, ⟨.take, 4, []⟩, aT]) (.cond none (.seq (.reg [aT]) .none) .none)) (.seq (.reg [aT]) .none)))))))),
  []⟩
def b_laws_FnExactIsKept : List (Nat × Tree) := [(0, (.ins (.grp [] [.cp 48 (.k 16), .cp 49 (.k 17)] (.grp [] [.cp 64 (.c (.bool false))] .nil)) (.ins (.grp [] [.cp 128 (.k 0)] (.grp [] [.len false 144 (.k 128)] (.grp [] [.bin .gtr 160 (.k 144) (.c (.int .i64 (1048576)))] .nil))) (.ite (.k 160) (.ins (.grp [] [.cp 64 (.c (.bool true))] .nil) (.ret [(.bool, [(.k 64)])])) (.ins (.grp [] [.cp 176 (.k 0)] (.grp [] [.call 0 [(tLI, [(.k 176)])] [[192]]] (.grp [] [.cp 208 (.k 48), .cp 209 (.k 49)] (.grp [] [.call 1 [(tPII, [(.k 208), (.k 209)])] [[224, 225]]] (.grp [] [.call 2 [(tLI, [(.k 192)]), (tPII, [(.k 224), (.k 225)])] [[240]]] (.grp [] [.cp 80 (.k 240)] .nil)))))) (.ins (.grp [] [.cp 256 (.k 0)] (.grp [] [.call 0 [(tLI, [(.k 256)])] [[272]]] (.grp [] [.cp 96 (.k 272)] .nil))) (.ins (.grp [] [.cp 288 (.k 96)] (.grp [] [.cp 304 (.k 48), .cp 305 (.k 49)] (.grp [] [.call 1 [(tPII, [(.k 304), (.k 305)])] [[320, 321]]] (.grp [] [.call 3 [(tLI, [(.k 288)]), (tPII, [(.k 320), (.k 321)])] [[336]]] (.grp [] [.cp 112 (.k 336)] .nil))))) (.ins (.grp [] [.cp 352 (.k 112)] (.grp [] [.cp 368 (.k 80)] (.grp [] [.beq true 384 (.k 352) (.k 368)] .nil))) (.ite (.k 384) (.ins (.grp [] [.cp 64 (.c (.bool false))] .nil) (.ret [(.bool, [(.k 64)])])) (.ins (.grp [] [.cp 400 (.k 96)] (.grp [] [.cp 416 (.k 0)] (.grp [] [.call 0 [(tLI, [(.k 416)])] [[432]]] (.grp [] [.call 4 [(tLI, [(.k 400)]), (tLI, [(.k 432)])] [[448]]] (.grp [] [.not 464 (.k 448)] .nil))))) (.ite (.k 464) (.ins (.grp [] [.cp 64 (.c (.bool false))] .nil) (.ret [(.bool, [(.k 64)])])) (.ins (.grp [] [.cp 64 (.c (.bool true))] .nil) (.ret [(.bool, [(.k 64)])])))))))))))))]
noncomputable def c_laws_FnExactIsKept : List Lf.Fn := [n_laws_toIntS, n_laws_toWindow, n_spec_IsKept, n_impl_IsKept, n_laws_eqIntS]
noncomputable def f_laws_FnExactIsKept : (List Int) → (Int × Int) → Option (Bool) := tyd [tLI, tPII] [.bool] (fnD (DOf c_laws_FnExactIsKept) s_laws_FnExactIsKept a_laws_FnExactIsKept.L b_laws_FnExactIsKept)
noncomputable def n_laws_FnExactIsKept : Lf.Fn := ⟨s_laws_FnExactIsKept, [tLI, tPII], [.bool], f_laws_FnExactIsKept⟩
theorem k_laws_FnExactIsKept : compFn Try.prog (sigsOf c_laws_FnExactIsKept) s_laws_FnExactIsKept a_laws_FnExactIsKept = some b_laws_FnExactIsKept := by kernel_rfl
theorem g_laws_FnExactIsKept : Lf.Good Try.prog n_laws_FnExactIsKept := good_of (by simp only [c_laws_FnExactIsKept, List.mem_cons, List.not_mem_nil, or_false]; rintro _ (rfl | rfl | rfl | rfl | rfl); exact g_laws_toIntS; exact g_laws_toWindow; exact g_spec_IsKept; exact g_impl_IsKept; exact g_laws_eqIntS) k_laws_FnExactIsKept (by kernel_rfl) ⟨Try.f7, by kernel_rfl, by kernel_rfl, by kernel_rfl⟩ [tLI, tPII] [.bool]
theorem f_laws_FnExactIsKept_eq (x0 : (List Int)) (x1 : (Int × Int)) : f_laws_FnExactIsKept x0 x1 =
    bif (decide ((x0.length : Int) > (1048576 : Int))) then
      some true
    else
      (f_laws_toIntS x0).bind fun z1 =>
      (f_laws_toWindow x1).bind fun z2 =>
      (f_spec_IsKept z1 z2).bind fun z3 =>
      (f_laws_toIntS x0).bind fun z4 =>
      (f_laws_toWindow x1).bind fun z5 =>
      (f_impl_IsKept z4 z5).bind fun z6 =>
      bif (!(z6 == z3)) then
        some false
      else
        (f_laws_toIntS x0).bind fun z7 =>
        (f_laws_eqIntS z4 z7).bind fun z8 =>
        bif (!z8) then
          some false
        else
          some true :=
  (show f_laws_FnExactIsKept x0 x1 = (Jl (DOf c_laws_FnExactIsKept) (irBlk a_laws_FnExactIsKept.L b_laws_FnExactIsKept) 0 [⟨tLI, x0⟩, ⟨tI, x1.1⟩, ⟨tI, x1.2⟩]).bind (readOuts [.bool]) by kernel_rfl).trans ((Jstep2 (DKOf_eq c_laws_FnExactIsKept)).trans (by kernel_rfl))
end Go.Proofs.Ytgabgcogeedclaa
