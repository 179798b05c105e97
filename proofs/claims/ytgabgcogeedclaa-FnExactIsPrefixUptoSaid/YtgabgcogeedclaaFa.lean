/- The functions that FnExactIsPrefix reaches, as functions of data, and their texts, part 1 of 1. -/
import Derived.Test.YtgabgcogeedclaaLd
import Derived.KernelRfl
import Derived.Test.YtgabgcogeedclaaProg
set_option linter.unusedVariables false
set_option linter.unusedSimpArgs false
namespace Go.Proofs.Ytgabgcogeedclaa
open Go.Lf
def aT : Ann := ⟨.take, 0, []⟩
def aR : Ann := ⟨.ref, 0, []⟩
def tI : Ty := .int .i64
def tLI : Ty := .slice tI
def tPILI : Ty := .pair tI tLI
def tLPILI : Ty := .slice tPILI
def m42d08 : M := .sl .own .sc
def mca4df : M := .pair .sc m42d08
/- loop.example/g01989/laws.szIntS -/
def s_laws_szIntS : Sig := ⟨46, [.v tLI, .v tI], [(tI, [none])]⟩
def a_laws_szIntS : FAnn := ⟨[⟨[(0, ⟨0, [], .va⟩), (15, ⟨0, [], .pl 1 false⟩), (16, ⟨0, [], .va⟩), (31, ⟨0, [], .pl 1 false⟩)], [0, 16]⟩],
  (.seq (.reg [aT]) (.seq (.reg [aR, aR, aT, aT, aT]) (.seq (.seq (.reg [aR, aT]) (.cond none (.seq (.reg [aT]) .none) .none)) (.seq (.reg [aR, aT]) .none)))),
  []⟩
def b_laws_szIntS : List (Nat × Tree) := [(0, (.ins (.grp [] [.cp 64 (.c (.int .i64 (0)))] .nil) (.ins (.grp [] [.cp 80 (.k 16)] (.grp [] [.cp 96 (.k 0)] (.grp [] [.len false 112 (.k 96)] (.grp [] [.bin .sub 128 (.k 80) (.k 112)] (.grp [] [.cp 16 (.k 128)] .nil))))) (.ins (.grp [] [.cp 144 (.k 16)] (.grp [] [.bin .lss 160 (.k 144) (.c (.int .i64 (0)))] .nil)) (.ite (.k 160) (.ins (.grp [] [.cp 64 (.c (.int .i64 (-1)))] .nil) (.ret [(tI, [(.k 64)])])) (.ins (.grp [] [.cp 176 (.k 16)] (.grp [] [.cp 64 (.k 176)] .nil)) (.ret [(tI, [(.k 64)])])))))))]
noncomputable def c_laws_szIntS : List Lf.Fn := []
noncomputable def f_laws_szIntS : (List Int) → Int → Option (Int) := tyd [tLI, tI] [tI] (fnD (DOf c_laws_szIntS) s_laws_szIntS a_laws_szIntS.L b_laws_szIntS)
noncomputable def n_laws_szIntS : Lf.Fn := ⟨s_laws_szIntS, [tLI, tI], [tI], f_laws_szIntS⟩
theorem k_laws_szIntS : compFn Try.prog (sigsOf c_laws_szIntS) s_laws_szIntS a_laws_szIntS = some b_laws_szIntS := by kernel_rfl
theorem g_laws_szIntS : Lf.Good Try.prog n_laws_szIntS := good_of (by intro _ h; simp [c_laws_szIntS] at h) k_laws_szIntS (by kernel_rfl) ⟨Try.f46, by kernel_rfl, by kernel_rfl, by kernel_rfl⟩ [tLI, tI] [tI]
theorem f_laws_szIntS_eq (x0 : (List Int)) (x1 : Int) : f_laws_szIntS x0 x1 =
    bif (decide ((IntKind.wrap .i64 (x1 - (x0.length : Int))) < (0 : Int))) then
      some (-1 : Int)
    else
      some (IntKind.wrap .i64 (x1 - (x0.length : Int))) :=
  (show f_laws_szIntS x0 x1 = (Jl (DOf c_laws_szIntS) (irBlk a_laws_szIntS.L b_laws_szIntS) 0 [⟨tLI, x0⟩, ⟨tI, x1⟩]).bind (readOuts [tI]) by kernel_rfl).trans ((Jstep2 (DKOf_eq c_laws_szIntS)).trans (by kernel_rfl))
/- loop.example/g01989/laws.szAccess -/
def s_laws_szAccess : Sig := ⟨41, [.v tPILI, .v tI], [(tI, [none])]⟩
def a_laws_szAccess : FAnn := ⟨[⟨[(0, ⟨0, [], .va⟩), (1, ⟨0, [], .va⟩), (15, ⟨0, [], .pl 2 true⟩), (16, ⟨0, [], .va⟩), (31, ⟨0, [], .pl 1 false⟩)], [0, 1, 16]⟩],
  (.seq (.reg [aT, aT]) (.seq (.reg [aT, aT, aR, aT, aT]) (.seq (.seq (.reg [aR, aT]) (.cond none (.seq (.reg [aT]) .none) .none)) (.seq (.reg [aR, aT]) .none)))),
  []⟩
def b_laws_szAccess : List (Nat × Tree) := [(0, (.ins (.grp [] [.cp 32 (.k 0), .cp 33 (.k 1)] (.grp [] [.cp 64 (.c (.int .i64 (0)))] .nil)) (.ins (.grp [] [.cp 96 (.k 33)] (.grp [] [.cp 112 (.k 16)] (.grp [] [.call 0 [(tLI, [(.k 96)]), (tI, [(.k 112)])] [[128]]] (.grp [] [.cp 16 (.k 128)] .nil)))) (.ins (.grp [] [.cp 144 (.k 16)] (.grp [] [.bin .lss 160 (.k 144) (.c (.int .i64 (0)))] .nil)) (.ite (.k 160) (.ins (.grp [] [.cp 64 (.c (.int .i64 (-1)))] .nil) (.ret [(tI, [(.k 64)])])) (.ins (.grp [] [.cp 176 (.k 16)] (.grp [] [.cp 64 (.k 176)] .nil)) (.ret [(tI, [(.k 64)])])))))))]
noncomputable def c_laws_szAccess : List Lf.Fn := [n_laws_szIntS]
noncomputable def f_laws_szAccess : (Int × (List Int)) → Int → Option (Int) := tyd [tPILI, tI] [tI] (fnD (DOf c_laws_szAccess) s_laws_szAccess a_laws_szAccess.L b_laws_szAccess)
noncomputable def n_laws_szAccess : Lf.Fn := ⟨s_laws_szAccess, [tPILI, tI], [tI], f_laws_szAccess⟩
theorem k_laws_szAccess : compFn Try.prog (sigsOf c_laws_szAccess) s_laws_szAccess a_laws_szAccess = some b_laws_szAccess := by kernel_rfl
theorem g_laws_szAccess : Lf.Good Try.prog n_laws_szAccess := good_of (by simp only [c_laws_szAccess, List.mem_singleton]; rintro _ rfl; exact g_laws_szIntS) k_laws_szAccess (by kernel_rfl) ⟨Try.f41, by kernel_rfl, by kernel_rfl, by kernel_rfl⟩ [tPILI, tI] [tI]
theorem f_laws_szAccess_eq (x0 : (Int × (List Int))) (x1 : Int) : f_laws_szAccess x0 x1 =
    (f_laws_szIntS x0.2 x1).bind fun z1 =>
    bif (decide (z1 < (0 : Int))) then
      some (-1 : Int)
    else
      some z1 :=
  (show f_laws_szAccess x0 x1 = (Jl (DOf c_laws_szAccess) (irBlk a_laws_szAccess.L b_laws_szAccess) 0 [⟨tI, x0.1⟩, ⟨tLI, x0.2⟩, ⟨tI, x1⟩]).bind (readOuts [tI]) by kernel_rfl).trans ((Jstep2 (DKOf_eq c_laws_szAccess)).trans (by kernel_rfl))
/- loop.example/g01989/laws.szAccessS -/
def s_laws_szAccessS : Sig := ⟨23, [.v tLPILI, .v tI], [(tI, [none])]⟩
def a_laws_szAccessS : FAnn := ⟨[⟨[(0, ⟨0, [], .va⟩), (15, ⟨0, [], .pl 1 false⟩), (16, ⟨0, [], .va⟩), (31, ⟨0, [], .pl 1 false⟩)], [0, 16]⟩,
    ⟨[(0, ⟨0, [], .va⟩), (15, ⟨0, [], .pl 1 false⟩), (16, ⟨0, [], .va⟩), (31, ⟨0, [], .pl 1 false⟩), (80, ⟨0, [], .va⟩), (95, ⟨0, [], .pl 1 false⟩)], [0, 16, 80]⟩],
  (.seq (.reg [aT]) (.seq (.reg [aR, aR, aT, aT, aT]) (.seq (.seq (.reg [aR, aT]) (.cond none (.seq (.reg [aT]) .none) .none)) (.seq (.seq (.reg [aT]) (.block none (.loop 1 (.seq (.seq (.reg [aR, aR, aT, aT]) (.cond none .none .none)) (.seq (.block none (.seq (.reg [aR, aR, aT, aT, aR, aT, aT]) (.seq (.reg [aR, aT]) (.cond none (.seq (.reg [aT]) .none) .none)))) (.reg [aR, aT, aT])))))) (.seq (.reg [aR, aT]) .none))))),
  []⟩
def b_laws_szAccessS : List (Nat × Tree) := [(0, (.ins (.grp [] [.cp 64 (.c (.int .i64 (0)))] .nil) (.ins (.grp [] [.cp 96 (.k 16)] (.grp [] [.cp 112 (.k 0)] (.grp [] [.len false 128 (.k 112)] (.grp [] [.bin .sub 144 (.k 96) (.k 128)] (.grp [] [.cp 16 (.k 144)] .nil))))) (.ins (.grp [] [.cp 160 (.k 16)] (.grp [] [.bin .lss 176 (.k 160) (.c (.int .i64 (0)))] .nil)) (.ite (.k 176) (.ins (.grp [] [.cp 64 (.c (.int .i64 (-1)))] .nil) (.ret [(tI, [(.k 64)])])) (.ins (.grp [] [.cp 80 (.c (.int .i64 (0)))] .nil) (.jump 1 [0, 16, 80]))))))),
  (1, (.ins (.grp [] [.cp 192 (.k 80)] (.grp [] [.cp 208 (.k 0)] (.grp [] [.len false 224 (.k 208)] (.grp [] [.bin .lss 240 (.k 192) (.k 224)] .nil)))) (.ite (.k 240) (.ins (.grp [] [.cp 288 (.k 0)] (.grp [] [.cp 304 (.k 80)] (.grp [] [.idx (some tPILI) [320, 321] 0 (.k 288) (.k 304)] (.grp [] [.cp 336 (.k 320), .cp 337 (.k 321)] (.grp [] [.cp 352 (.k 16)] (.grp [] [.call 0 [(tPILI, [(.k 336), (.k 337)]), (tI, [(.k 352)])] [[368]]] (.grp [] [.cp 16 (.k 368)] .nil))))))) (.ins (.grp [] [.cp 384 (.k 16)] (.grp [] [.bin .lss 400 (.k 384) (.c (.int .i64 (0)))] .nil)) (.ite (.k 400) (.ins (.grp [] [.cp 64 (.c (.int .i64 (-1)))] .nil) (.ret [(tI, [(.k 64)])])) (.ins (.grp [] [.cp 256 (.k 80)] (.grp [] [.bin .add 272 (.k 256) (.c (.int .i64 (1)))] (.grp [] [.cp 80 (.k 272)] .nil))) (.jump 1 [0, 16, 80]))))) (.ins (.grp [] [.cp 416 (.k 16)] (.grp [] [.cp 64 (.k 416)] .nil)) (.ret [(tI, [(.k 64)])])))))]
noncomputable def c_laws_szAccessS : List Lf.Fn := [n_laws_szAccess]
noncomputable def f_laws_szAccessS : (List (Int × (List Int))) → Int → Option (Int) := tyd [tLPILI, tI] [tI] (fnD (DOf c_laws_szAccessS) s_laws_szAccessS a_laws_szAccessS.L b_laws_szAccessS)
noncomputable def n_laws_szAccessS : Lf.Fn := ⟨s_laws_szAccessS, [tLPILI, tI], [tI], f_laws_szAccessS⟩
noncomputable def l1_laws_szAccessS (v0 : (List (Int × (List Int)))) (v16 : Int) (v80 : Int) : Option (Int) := (Jl (DOf c_laws_szAccessS) (irBlk a_laws_szAccessS.L b_laws_szAccessS) 1 [⟨tLPILI, v0⟩, ⟨tI, v16⟩, ⟨tI, v80⟩]).bind (readOuts [tI])
theorem k_laws_szAccessS : compFn Try.prog (sigsOf c_laws_szAccessS) s_laws_szAccessS a_laws_szAccessS = some b_laws_szAccessS := by kernel_rfl
theorem g_laws_szAccessS : Lf.Good Try.prog n_laws_szAccessS := good_of (by simp only [c_laws_szAccessS, List.mem_singleton]; rintro _ rfl; exact g_laws_szAccess) k_laws_szAccessS (by kernel_rfl) ⟨Try.f23, by kernel_rfl, by kernel_rfl, by kernel_rfl⟩ [tLPILI, tI] [tI]
theorem f_laws_szAccessS_eq (x0 : (List (Int × (List Int)))) (x1 : Int) : f_laws_szAccessS x0 x1 =
    bif (decide ((IntKind.wrap .i64 (x1 - (x0.length : Int))) < (0 : Int))) then
      some (-1 : Int)
    else
      l1_laws_szAccessS x0 (IntKind.wrap .i64 (x1 - (x0.length : Int))) (0 : Int) :=
  (show f_laws_szAccessS x0 x1 = (Jl (DOf c_laws_szAccessS) (irBlk a_laws_szAccessS.L b_laws_szAccessS) 0 [⟨tLPILI, x0⟩, ⟨tI, x1⟩]).bind (readOuts [tI]) by kernel_rfl).trans ((Jstep2 (DKOf_eq c_laws_szAccessS)).trans (by kernel_rfl))
theorem l1_laws_szAccessS_eq (v0 : (List (Int × (List Int)))) (v16 : Int) (v80 : Int) : l1_laws_szAccessS v0 v16 v80 =
    bif (decide (v80 < (v0.length : Int))) then
      (at? v0 v80).bind fun z1 =>
      (f_laws_szAccess z1 v16).bind fun z2 =>
      bif (decide (z2 < (0 : Int))) then
        some (-1 : Int)
      else
        l1_laws_szAccessS v0 z2 (IntKind.wrap .i64 (v80 + (1 : Int)))
    else
      some v16 :=
  (show l1_laws_szAccessS v0 v16 v80 = (Jl (DOf c_laws_szAccessS) (irBlk a_laws_szAccessS.L b_laws_szAccessS) 1 [⟨tLPILI, v0⟩, ⟨tI, v16⟩, ⟨tI, v80⟩]).bind (readOuts [tI]) by kernel_rfl).trans ((Jstep2 (DKOf_eq c_laws_szAccessS)).trans (by kernel_rfl))
/- loop.example/g01989/laws.toIntS -/
def s_laws_toIntS : Sig := ⟨16, [.v tLI], [(tLI, [some .sc])]⟩
def a_laws_toIntS : FAnn := ⟨[⟨[(0, ⟨0, [], .va⟩), (15, ⟨0, [], .pl 1 false⟩)], [0]⟩,
    ⟨[(0, ⟨0, [], .va⟩), (15, ⟨0, [], .pl 1 false⟩), (48, ⟨0, [], .ro .sc none⟩), (63, ⟨0, [], .pl 1 false⟩), (64, ⟨0, [], .va⟩), (79, ⟨0, [], .pl 1 false⟩)], [0, 48, 64]⟩],
  (.seq (.reg [aT]) (.seq (.reg [aR, aT, aT, aT]) (.seq (.seq (.reg [aT]) (.block none (.loop 1 (.seq (.seq (.reg [aR, aR, aT, aT]) (.cond none .none .none)) (.seq (.block none (.reg [aR, aR, aR, aR, aT, aT, aT, aT])) (.reg [aR, aT, aT])))))) (.seq (.reg [aR, aT]) .none)))),
  []⟩
def b_laws_toIntS : List (Nat × Tree) := [(0, (.ins (.grp [] [.cp 32 (.c (.nil tI))] .nil) (.ins (.grp [] [.cp 80 (.k 0)] (.grp [] [.len false 96 (.k 80)] (.grp [] [.mk 112 tI (.k 96)] (.grp [] [.cp 48 (.k 112)] .nil)))) (.ins (.grp [] [.cp 64 (.c (.int .i64 (0)))] .nil) (.jump 1 [0, 48, 64]))))),
  (1, (.ins (.grp [] [.cp 128 (.k 64)] (.grp [] [.cp 144 (.k 0)] (.grp [] [.len false 160 (.k 144)] (.grp [] [.bin .lss 176 (.k 128) (.k 160)] .nil)))) (.ite (.k 176) (.ins (.grp [] [.cp 224 (.k 48)] (.grp [] [.cp 240 (.k 64)] (.grp [] [.cp 256 (.k 0)] (.grp [] [.cp 272 (.k 64)] (.grp [] [.idx (some tI) [288] 0 (.k 256) (.k 272)] (.grp [] [.cp 304 (.k 288)] (.grp [] [.chk tI (.k 48) (.k 240)] (.grp [] [.setE 48 (.k 240) 0 [tI] [(.k 304)]] .nil)))))))) (.ins (.grp [] [.cp 192 (.k 64)] (.grp [] [.bin .add 208 (.k 192) (.c (.int .i64 (1)))] (.grp [] [.cp 64 (.k 208)] .nil))) (.jump 1 [0, 48, 64]))) (.ins (.grp [] [.cp 336 (.k 48)] (.grp [] [.cp 32 (.k 48)] .nil)) (.ret [(tLI, [(.k 32)])])))))]
noncomputable def c_laws_toIntS : List Lf.Fn := []
noncomputable def f_laws_toIntS : (List Int) → Option ((List Int)) := tyd [tLI] [tLI] (fnD (DOf c_laws_toIntS) s_laws_toIntS a_laws_toIntS.L b_laws_toIntS)
noncomputable def n_laws_toIntS : Lf.Fn := ⟨s_laws_toIntS, [tLI], [tLI], f_laws_toIntS⟩
noncomputable def l1_laws_toIntS (v0 : (List Int)) (v48 : (List Int)) (v64 : Int) : Option ((List Int)) := (Jl (DOf c_laws_toIntS) (irBlk a_laws_toIntS.L b_laws_toIntS) 1 [⟨tLI, v0⟩, ⟨tLI, v48⟩, ⟨tI, v64⟩]).bind (readOuts [tLI])
theorem k_laws_toIntS : compFn Try.prog (sigsOf c_laws_toIntS) s_laws_toIntS a_laws_toIntS = some b_laws_toIntS := by kernel_rfl
theorem g_laws_toIntS : Lf.Good Try.prog n_laws_toIntS := good_of (by intro _ h; simp [c_laws_toIntS] at h) k_laws_toIntS (by kernel_rfl) ⟨Try.f16, by kernel_rfl, by kernel_rfl, by kernel_rfl⟩ [tLI] [tLI]
theorem f_laws_toIntS_eq (x0 : (List Int)) : f_laws_toIntS x0 =
    bif mkOk (x0.length : Int) then
    l1_laws_toIntS x0 (List.replicate (Int.toNat (x0.length : Int)) (0 : Int)) (0 : Int)
    else none :=
  (show f_laws_toIntS x0 = (Jl (DOf c_laws_toIntS) (irBlk a_laws_toIntS.L b_laws_toIntS) 0 [⟨tLI, x0⟩]).bind (readOuts [tLI]) by kernel_rfl).trans ((Jstep2 (DKOf_eq c_laws_toIntS)).trans (by kernel_rfl))
theorem l1_laws_toIntS_eq (v0 : (List Int)) (v48 : (List Int)) (v64 : Int) : l1_laws_toIntS v0 v48 v64 =
    bif (decide (v64 < (v0.length : Int))) then
      (at? v0 v64).bind fun z1 =>
      (at? v48 v64).bind fun _ =>
      (at? v48 v64).bind fun z2 =>
      l1_laws_toIntS v0 (v48.set (Int.toNat v64) z1) (IntKind.wrap .i64 (v64 + (1 : Int)))
    else
      some v48 :=
  (show l1_laws_toIntS v0 v48 v64 = (Jl (DOf c_laws_toIntS) (irBlk a_laws_toIntS.L b_laws_toIntS) 1 [⟨tLI, v0⟩, ⟨tLI, v48⟩, ⟨tI, v64⟩]).bind (readOuts [tLI]) by kernel_rfl).trans ((Jstep2 (DKOf_eq c_laws_toIntS)).trans (by kernel_rfl))
/- loop.example/g01989/laws.toAccess -/
def s_laws_toAccess : Sig := ⟨43, [.v tPILI], [(tPILI, [none, some .sc])]⟩
def a_laws_toAccess : FAnn := ⟨[⟨[(0, ⟨0, [], .va⟩), (1, ⟨0, [], .va⟩), (15, ⟨0, [], .pl 2 true⟩)], [0, 1]⟩],
  (.seq (.reg [aT, aT]) (.seq (.reg [aT]) (.seq (.reg [aT, aT, aT, aT]) (.seq (.reg [aT, aT, aT, aT, aT]) (.seq (.reg [aT, aT]) .none))))),
  []⟩
def b_laws_toAccess : List (Nat × Tree) := [(0, (.ins (.grp [] [.cp 16 (.k 0), .cp 17 (.k 1)] (.grp [] [.cp 32 (.c (.int .i64 (0))), .cp 33 (.c (.nil tI))] .nil)) (.ins (.grp [] [.cp 48 (.c (.int .i64 (0))), .cp 49 (.c (.nil tI))] .nil) (.ins (.grp [] [.cp 80 (.k 16)] (.grp [] [.cp 48 (.k 80)] .nil)) (.ins (.grp [] [.cp 128 (.k 17)] (.grp [] [.call 0 [(tLI, [(.k 128)])] [[144]]] (.grp [] [.cp 49 (.k 144)] .nil))) (.ins (.grp [] [.cp 176 (.k 48), .cp 177 (.k 49)] (.grp [] [.cp 32 (.k 176), .cp 33 (.k 49)] .nil)) (.ret [(tPILI, [(.k 32), (.k 33)])])))))))]
noncomputable def c_laws_toAccess : List Lf.Fn := [n_laws_toIntS]
noncomputable def f_laws_toAccess : (Int × (List Int)) → Option ((Int × (List Int))) := tyd [tPILI] [tPILI] (fnD (DOf c_laws_toAccess) s_laws_toAccess a_laws_toAccess.L b_laws_toAccess)
noncomputable def n_laws_toAccess : Lf.Fn := ⟨s_laws_toAccess, [tPILI], [tPILI], f_laws_toAccess⟩
theorem k_laws_toAccess : compFn Try.prog (sigsOf c_laws_toAccess) s_laws_toAccess a_laws_toAccess = some b_laws_toAccess := by kernel_rfl
theorem g_laws_toAccess : Lf.Good Try.prog n_laws_toAccess := good_of (by simp only [c_laws_toAccess, List.mem_singleton]; rintro _ rfl; exact g_laws_toIntS) k_laws_toAccess (by kernel_rfl) ⟨Try.f43, by kernel_rfl, by kernel_rfl, by kernel_rfl⟩ [tPILI] [tPILI]
theorem f_laws_toAccess_eq (x0 : (Int × (List Int))) : f_laws_toAccess x0 =
    (f_laws_toIntS x0.2).bind fun z1 =>
    some (x0.1, z1) :=
  (show f_laws_toAccess x0 = (Jl (DOf c_laws_toAccess) (irBlk a_laws_toAccess.L b_laws_toAccess) 0 [⟨tI, x0.1⟩, ⟨tLI, x0.2⟩]).bind (readOuts [tPILI]) by kernel_rfl).trans ((Jstep2 (DKOf_eq c_laws_toAccess)).trans (by kernel_rfl))
/- loop.example/g01989/laws.toAccessS -/
def s_laws_toAccessS : Sig := ⟨25, [.v tLPILI], [(tLPILI, [some mca4df])]⟩
def a_laws_toAccessS : FAnn := ⟨[⟨[(0, ⟨0, [], .va⟩), (15, ⟨0, [], .pl 1 false⟩)], [0]⟩,
    ⟨[(0, ⟨0, [], .va⟩), (15, ⟨0, [], .pl 1 false⟩), (48, ⟨0, [], .ro mca4df none⟩), (63, ⟨0, [], .pl 1 false⟩), (64, ⟨0, [], .va⟩), (79, ⟨0, [], .pl 1 false⟩)], [0, 48, 64]⟩],
  (.seq (.reg [aT]) (.seq (.reg [aR, aT, aT, aT]) (.seq (.seq (.reg [aT]) (.block none (.loop 1 (.seq (.seq (.reg [aR, aR, aT, aT]) (.cond none .none .none)) (.seq (.block none (.reg [aR, aR, aR, aR, aT, aT, aT, aT, aT])) (.reg [aR, aT, aT])))))) (.seq (.reg [aR, aT]) .none)))),
  []⟩
def b_laws_toAccessS : List (Nat × Tree) := [(0, (.ins (.grp [] [.cp 32 (.c (.nil tPILI))] .nil) (.ins (.grp [] [.cp 80 (.k 0)] (.grp [] [.len false 96 (.k 80)] (.grp [] [.mk 112 tPILI (.k 96)] (.grp [] [.cp 48 (.k 112)] .nil)))) (.ins (.grp [] [.cp 64 (.c (.int .i64 (0)))] .nil) (.jump 1 [0, 48, 64]))))),
  (1, (.ins (.grp [] [.cp 128 (.k 64)] (.grp [] [.cp 144 (.k 0)] (.grp [] [.len false 160 (.k 144)] (.grp [] [.bin .lss 176 (.k 128) (.k 160)] .nil)))) (.ite (.k 176) (.ins (.grp [] [.cp 224 (.k 48)] (.grp [] [.cp 240 (.k 64)] (.grp [] [.cp 256 (.k 0)] (.grp [] [.cp 272 (.k 64)] (.grp [] [.idx (some tPILI) [288, 289] 0 (.k 256) (.k 272)] (.grp [] [.cp 304 (.k 288), .cp 305 (.k 289)] (.grp [] [.call 0 [(tPILI, [(.k 304), (.k 305)])] [[320, 321]]] (.grp [] [.chk tPILI (.k 48) (.k 240)] (.grp [] [.setE 48 (.k 240) 0 [tI, tLI] [(.k 320), (.k 321)]] .nil))))))))) (.ins (.grp [] [.cp 192 (.k 64)] (.grp [] [.bin .add 208 (.k 192) (.c (.int .i64 (1)))] (.grp [] [.cp 64 (.k 208)] .nil))) (.jump 1 [0, 48, 64]))) (.ins (.grp [] [.cp 352 (.k 48)] (.grp [] [.cp 32 (.k 48)] .nil)) (.ret [(tLPILI, [(.k 32)])])))))]
noncomputable def c_laws_toAccessS : List Lf.Fn := [n_laws_toAccess]
noncomputable def f_laws_toAccessS : (List (Int × (List Int))) → Option ((List (Int × (List Int)))) := tyd [tLPILI] [tLPILI] (fnD (DOf c_laws_toAccessS) s_laws_toAccessS a_laws_toAccessS.L b_laws_toAccessS)
noncomputable def n_laws_toAccessS : Lf.Fn := ⟨s_laws_toAccessS, [tLPILI], [tLPILI], f_laws_toAccessS⟩
noncomputable def l1_laws_toAccessS (v0 : (List (Int × (List Int)))) (v48 : (List (Int × (List Int)))) (v64 : Int) : Option ((List (Int × (List Int)))) := (Jl (DOf c_laws_toAccessS) (irBlk a_laws_toAccessS.L b_laws_toAccessS) 1 [⟨tLPILI, v0⟩, ⟨tLPILI, v48⟩, ⟨tI, v64⟩]).bind (readOuts [tLPILI])
theorem k_laws_toAccessS : compFn Try.prog (sigsOf c_laws_toAccessS) s_laws_toAccessS a_laws_toAccessS = some b_laws_toAccessS := by kernel_rfl
theorem g_laws_toAccessS : Lf.Good Try.prog n_laws_toAccessS := good_of (by simp only [c_laws_toAccessS, List.mem_singleton]; rintro _ rfl; exact g_laws_toAccess) k_laws_toAccessS (by kernel_rfl) ⟨Try.f25, by kernel_rfl, by kernel_rfl, by kernel_rfl⟩ [tLPILI] [tLPILI]
theorem f_laws_toAccessS_eq (x0 : (List (Int × (List Int)))) : f_laws_toAccessS x0 =
    bif mkOk (x0.length : Int) then
    l1_laws_toAccessS x0 (List.replicate (Int.toNat (x0.length : Int)) ((0 : Int), ([] : List Int))) (0 : Int)
    else none :=
  (show f_laws_toAccessS x0 = (Jl (DOf c_laws_toAccessS) (irBlk a_laws_toAccessS.L b_laws_toAccessS) 0 [⟨tLPILI, x0⟩]).bind (readOuts [tLPILI]) by kernel_rfl).trans ((Jstep2 (DKOf_eq c_laws_toAccessS)).trans (by kernel_rfl))
theorem l1_laws_toAccessS_eq (v0 : (List (Int × (List Int)))) (v48 : (List (Int × (List Int)))) (v64 : Int) : l1_laws_toAccessS v0 v48 v64 =
    bif (decide (v64 < (v0.length : Int))) then
      (at? v0 v64).bind fun z1 =>
      (f_laws_toAccess z1).bind fun z2 =>
      (at? v48 v64).bind fun _ =>
      (at? v48 v64).bind fun z3 =>
      l1_laws_toAccessS v0 (v48.set (Int.toNat v64) z2) (IntKind.wrap .i64 (v64 + (1 : Int)))
    else
      some v48 :=
  (show l1_laws_toAccessS v0 v48 v64 = (Jl (DOf c_laws_toAccessS) (irBlk a_laws_toAccessS.L b_laws_toAccessS) 1 [⟨tLPILI, v0⟩, ⟨tLPILI, v48⟩, ⟨tI, v64⟩]).bind (readOuts [tLPILI]) by kernel_rfl).trans ((Jstep2 (DKOf_eq c_laws_toAccessS)).trans (by kernel_rfl))
/- loop.example/g01989/spec.l2Ints -/
def s_spec_l2Ints : Sig := ⟨59, [.v tLI, .v tLI], [(.bool, [none])]⟩
def a_spec_l2Ints : FAnn := ⟨[⟨[(0, ⟨0, [], .va⟩), (15, ⟨0, [], .pl 1 false⟩), (16, ⟨0, [], .va⟩), (31, ⟨0, [], .pl 1 false⟩)], [0, 16]⟩,
    ⟨[(0, ⟨0, [], .va⟩), (15, ⟨0, [], .pl 1 false⟩), (16, ⟨0, [], .va⟩), (31, ⟨0, [], .pl 1 false⟩), (80, ⟨0, [], .va⟩), (95, ⟨0, [], .pl 1 false⟩)], [0, 16, 80]⟩],
  (.seq (.reg [aT]) (.seq (.seq (.reg [aR, aT, aR, aT, aT]) (.cond none (.seq (.reg [aT]) .none) .none)) (.seq (.seq (.reg [aT]) (.block none (.loop 1 (.seq (.seq (.reg [aR, aR, aT, aT]) (.cond none .none .none)) (.seq (.block none (.seq (.reg [aR, aR, aT, aT, aR, aR, aT, aT, aT]) (.cond none (.seq (.reg [aT]) .none) .none))) (.reg [aR, aT, aT])))))) (.seq (.reg [aT]) .none)))),
  []⟩
def b_spec_l2Ints : List (Nat × Tree) := [(0, (.ins (.grp [] [.cp 64 (.c (.bool false))] .nil) (.ins (.grp [] [.cp 96 (.k 0)] (.grp [] [.len false 112 (.k 96)] (.grp [] [.cp 128 (.k 16)] (.grp [] [.len false 144 (.k 128)] (.grp [] [.bin .neq 160 (.k 112) (.k 144)] .nil))))) (.ite (.k 160) (.ins (.grp [] [.cp 64 (.c (.bool false))] .nil) (.ret [(.bool, [(.k 64)])])) (.ins (.grp [] [.cp 80 (.c (.int .i64 (0)))] .nil) (.jump 1 [0, 16, 80])))))),
  (1, (.ins (.grp [] [.cp 176 (.k 80)] (.grp [] [.cp 192 (.k 0)] (.grp [] [.len false 208 (.k 192)] (.grp [] [.bin .lss 224 (.k 176) (.k 208)] .nil)))) (.ite (.k 224) (.ins (.grp [] [.cp 272 (.k 0)] (.grp [] [.cp 288 (.k 80)] (.grp [] [.idx (some tI) [304] 0 (.k 272) (.k 288)] (.grp [] [.cp 320 (.k 304)] (.grp [] [.cp 336 (.k 16)] (.grp [] [.cp 352 (.k 80)] (.grp [] [.idx (some tI) [368] 0 (.k 336) (.k 352)] (.grp [] [.cp 384 (.k 368)] (.grp [] [.bin .neq 400 (.k 320) (.k 384)] .nil))))))))) (.ite (.k 400) (.ins (.grp [] [.cp 64 (.c (.bool false))] .nil) (.ret [(.bool, [(.k 64)])])) (.ins (.grp [] [.cp 240 (.k 80)] (.grp [] [.bin .add 256 (.k 240) (.c (.int .i64 (1)))] (.grp [] [.cp 80 (.k 256)] .nil))) (.jump 1 [0, 16, 80])))) (.ins (.grp [] [.cp 64 (.c (.bool true))] .nil) (.ret [(.bool, [(.k 64)])])))))]
noncomputable def c_spec_l2Ints : List Lf.Fn := []
noncomputable def f_spec_l2Ints : (List Int) → (List Int) → Option (Bool) := tyd [tLI, tLI] [.bool] (fnD (DOf c_spec_l2Ints) s_spec_l2Ints a_spec_l2Ints.L b_spec_l2Ints)
noncomputable def n_spec_l2Ints : Lf.Fn := ⟨s_spec_l2Ints, [tLI, tLI], [.bool], f_spec_l2Ints⟩
noncomputable def l1_spec_l2Ints (v0 : (List Int)) (v16 : (List Int)) (v80 : Int) : Option (Bool) := (Jl (DOf c_spec_l2Ints) (irBlk a_spec_l2Ints.L b_spec_l2Ints) 1 [⟨tLI, v0⟩, ⟨tLI, v16⟩, ⟨tI, v80⟩]).bind (readOuts [.bool])
theorem k_spec_l2Ints : compFn Try.prog (sigsOf c_spec_l2Ints) s_spec_l2Ints a_spec_l2Ints = some b_spec_l2Ints := by kernel_rfl
theorem g_spec_l2Ints : Lf.Good Try.prog n_spec_l2Ints := good_of (by intro _ h; simp [c_spec_l2Ints] at h) k_spec_l2Ints (by kernel_rfl) ⟨Try.f59, by kernel_rfl, by kernel_rfl, by kernel_rfl⟩ [tLI, tLI] [.bool]
theorem f_spec_l2Ints_eq (x0 : (List Int)) (x1 : (List Int)) : f_spec_l2Ints x0 x1 =
    bif ((x0.length : Int) != (x1.length : Int)) then
      some false
    else
      l1_spec_l2Ints x0 x1 (0 : Int) :=
  (show f_spec_l2Ints x0 x1 = (Jl (DOf c_spec_l2Ints) (irBlk a_spec_l2Ints.L b_spec_l2Ints) 0 [⟨tLI, x0⟩, ⟨tLI, x1⟩]).bind (readOuts [.bool]) by kernel_rfl).trans ((Jstep2 (DKOf_eq c_spec_l2Ints)).trans (by kernel_rfl))
theorem l1_spec_l2Ints_eq (v0 : (List Int)) (v16 : (List Int)) (v80 : Int) : l1_spec_l2Ints v0 v16 v80 =
    bif (decide (v80 < (v0.length : Int))) then
      (at? v0 v80).bind fun z1 =>
      (at? v16 v80).bind fun z2 =>
      bif (z1 != z2) then
        some false
      else
        l1_spec_l2Ints v0 v16 (IntKind.wrap .i64 (v80 + (1 : Int)))
    else
      some true :=
  (show l1_spec_l2Ints v0 v16 v80 = (Jl (DOf c_spec_l2Ints) (irBlk a_spec_l2Ints.L b_spec_l2Ints) 1 [⟨tLI, v0⟩, ⟨tLI, v16⟩, ⟨tI, v80⟩]).bind (readOuts [.bool]) by kernel_rfl).trans ((Jstep2 (DKOf_eq c_spec_l2Ints)).trans (by kernel_rfl))
/- loop.example/g01989/spec.l5Same -/
def s_spec_l5Same : Sig := ⟨53, [.v tPILI, .v tPILI], [(.bool, [none])]⟩
def a_spec_l5Same : FAnn := ⟨[⟨[(0, ⟨0, [], .va⟩), (1, ⟨0, [], .va⟩), (15, ⟨0, [], .pl 2 true⟩), (16, ⟨0, [], .va⟩), (17, ⟨0, [], .va⟩), (31, ⟨0, [], .pl 2 true⟩)], [0, 1, 16, 17]⟩],
  (.seq (.reg [aT, aT, aT]) (.seq (.reg [aT, aT, aT, aT, aT, aR, aT, aT, aT, aT, aT, aT, aT]) .none)),
  []⟩
def b_spec_l5Same : List (Nat × Tree) := [(0, (.ins (.grp [] [.cp 32 (.k 0), .cp 33 (.k 1)] (.grp [] [.cp 48 (.k 16), .cp 49 (.k 17)] (.grp [] [.cp 64 (.c (.bool false))] .nil))) (.ins (.grp [] [.cp 96 (.k 32)] (.grp [] [.cp 128 (.k 48)] (.grp [] [.bin .eql 144 (.k 96) (.k 128)] (.grp [] [.cp 160 (.k 144)] (.sel 256 160 (.grp [] [.cp 192 (.k 33)] (.grp [] [.cp 224 (.k 49)] (.grp [] [.call 0 [(tLI, [(.k 192)]), (tLI, [(.k 224)])] [[240]]] .nil))) (.k 240) .nil (.c (.bool false)) (.grp [] [.cp 64 (.k 256)] .nil)))))) (.ret [(.bool, [(.k 64)])]))))]
noncomputable def c_spec_l5Same : List Lf.Fn := [n_spec_l2Ints]
noncomputable def f_spec_l5Same : (Int × (List Int)) → (Int × (List Int)) → Option (Bool) := tyd [tPILI, tPILI] [.bool] (fnD (DOf c_spec_l5Same) s_spec_l5Same a_spec_l5Same.L b_spec_l5Same)
noncomputable def n_spec_l5Same : Lf.Fn := ⟨s_spec_l5Same, [tPILI, tPILI], [.bool], f_spec_l5Same⟩
theorem k_spec_l5Same : compFn Try.prog (sigsOf c_spec_l5Same) s_spec_l5Same a_spec_l5Same = some b_spec_l5Same := by kernel_rfl
theorem g_spec_l5Same : Lf.Good Try.prog n_spec_l5Same := good_of (by simp only [c_spec_l5Same, List.mem_singleton]; rintro _ rfl; exact g_spec_l2Ints) k_spec_l5Same (by kernel_rfl) ⟨Try.f53, by kernel_rfl, by kernel_rfl, by kernel_rfl⟩ [tPILI, tPILI] [.bool]
theorem f_spec_l5Same_eq (x0 : (Int × (List Int))) (x1 : (Int × (List Int))) : f_spec_l5Same x0 x1 =
    (bif (x0.1 == x1.1) then (f_spec_l2Ints x0.2 x1.2).bind fun z2 =>
      some z2 else some false).bind fun z1 =>
    some z1 :=
  (show f_spec_l5Same x0 x1 = (Jl (DOf c_spec_l5Same) (irBlk a_spec_l5Same.L b_spec_l5Same) 0 [⟨tI, x0.1⟩, ⟨tLI, x0.2⟩, ⟨tI, x1.1⟩, ⟨tLI, x1.2⟩]).bind (readOuts [.bool]) by kernel_rfl).trans ((Jstep2 (DKOf_eq c_spec_l5Same)).trans (by kernel_rfl))
/- loop.example/g01989/spec.SameAccesses -/
def s_spec_SameAccesses : Sig := ⟨42, [.v tLPILI, .v tLPILI], [(.bool, [none])]⟩
def a_spec_SameAccesses : FAnn := ⟨[⟨[(0, ⟨0, [], .va⟩), (15, ⟨0, [], .pl 1 false⟩), (16, ⟨0, [], .va⟩), (31, ⟨0, [], .pl 1 false⟩)], [0, 16]⟩,
    ⟨[(0, ⟨0, [], .va⟩), (15, ⟨0, [], .pl 1 false⟩), (16, ⟨0, [], .va⟩), (31, ⟨0, [], .pl 1 false⟩), (80, ⟨0, [], .va⟩), (95, ⟨0, [], .pl 1 false⟩)], [0, 16, 80]⟩],
  (.seq (.reg [aT]) (.seq (.seq (.reg [aR, aT, aR, aT, aT]) (.cond none (.seq (.reg [aT]) .none) .none)) (.seq (.seq (.reg [aT]) (.block none (.loop 1 (.seq (.seq (.reg [aR, aR, aT, aT]) (.cond none .none .none)) (.seq (.block none (.seq (.reg [aR, aR, aT, aT, aR, aR, aT, aT, aT, aT]) (.cond none (.seq (.reg [aT]) .none) .none))) (.reg [aR, aT, aT])))))) (.seq (.reg [aT]) .none)))),
  []⟩
def b_spec_SameAccesses : List (Nat × Tree) := [(0, (.ins (.grp [] [.cp 64 (.c (.bool false))] .nil) (.ins (.grp [] [.cp 96 (.k 0)] (.grp [] [.len false 112 (.k 96)] (.grp [] [.cp 128 (.k 16)] (.grp [] [.len false 144 (.k 128)] (.grp [] [.bin .neq 160 (.k 112) (.k 144)] .nil))))) (.ite (.k 160) (.ins (.grp [] [.cp 64 (.c (.bool false))] .nil) (.ret [(.bool, [(.k 64)])])) (.ins (.grp [] [.cp 80 (.c (.int .i64 (0)))] .nil) (.jump 1 [0, 16, 80])))))),
  (1, (.ins (.grp [] [.cp 176 (.k 80)] (.grp [] [.cp 192 (.k 0)] (.grp [] [.len false 208 (.k 192)] (.grp [] [.bin .lss 224 (.k 176) (.k 208)] .nil)))) (.ite (.k 224) (.ins (.grp [] [.cp 272 (.k 0)] (.grp [] [.cp 288 (.k 80)] (.grp [] [.idx (some tPILI) [304, 305] 0 (.k 272) (.k 288)] (.grp [] [.cp 320 (.k 304), .cp 321 (.k 305)] (.grp [] [.cp 336 (.k 16)] (.grp [] [.cp 352 (.k 80)] (.grp [] [.idx (some tPILI) [368, 369] 0 (.k 336) (.k 352)] (.grp [] [.cp 384 (.k 368), .cp 385 (.k 369)] (.grp [] [.call 0 [(tPILI, [(.k 320), (.k 321)]), (tPILI, [(.k 384), (.k 385)])] [[400]]] (.grp [] [.not 416 (.k 400)] .nil)))))))))) (.ite (.k 416) (.ins (.grp [] [.cp 64 (.c (.bool false))] .nil) (.ret [(.bool, [(.k 64)])])) (.ins (.grp [] [.cp 240 (.k 80)] (.grp [] [.bin .add 256 (.k 240) (.c (.int .i64 (1)))] (.grp [] [.cp 80 (.k 256)] .nil))) (.jump 1 [0, 16, 80])))) (.ins (.grp [] [.cp 64 (.c (.bool true))] .nil) (.ret [(.bool, [(.k 64)])])))))]
noncomputable def c_spec_SameAccesses : List Lf.Fn := [n_spec_l5Same]
noncomputable def f_spec_SameAccesses : (List (Int × (List Int))) → (List (Int × (List Int))) → Option (Bool) := tyd [tLPILI, tLPILI] [.bool] (fnD (DOf c_spec_SameAccesses) s_spec_SameAccesses a_spec_SameAccesses.L b_spec_SameAccesses)
noncomputable def n_spec_SameAccesses : Lf.Fn := ⟨s_spec_SameAccesses, [tLPILI, tLPILI], [.bool], f_spec_SameAccesses⟩
noncomputable def l1_spec_SameAccesses (v0 : (List (Int × (List Int)))) (v16 : (List (Int × (List Int)))) (v80 : Int) : Option (Bool) := (Jl (DOf c_spec_SameAccesses) (irBlk a_spec_SameAccesses.L b_spec_SameAccesses) 1 [⟨tLPILI, v0⟩, ⟨tLPILI, v16⟩, ⟨tI, v80⟩]).bind (readOuts [.bool])
theorem k_spec_SameAccesses : compFn Try.prog (sigsOf c_spec_SameAccesses) s_spec_SameAccesses a_spec_SameAccesses = some b_spec_SameAccesses := by kernel_rfl
theorem g_spec_SameAccesses : Lf.Good Try.prog n_spec_SameAccesses := good_of (by simp only [c_spec_SameAccesses, List.mem_singleton]; rintro _ rfl; exact g_spec_l5Same) k_spec_SameAccesses (by kernel_rfl) ⟨Try.f42, by kernel_rfl, by kernel_rfl, by kernel_rfl⟩ [tLPILI, tLPILI] [.bool]
theorem f_spec_SameAccesses_eq (x0 : (List (Int × (List Int)))) (x1 : (List (Int × (List Int)))) : f_spec_SameAccesses x0 x1 =
    bif ((x0.length : Int) != (x1.length : Int)) then
      some false
    else
      l1_spec_SameAccesses x0 x1 (0 : Int) :=
  (show f_spec_SameAccesses x0 x1 = (Jl (DOf c_spec_SameAccesses) (irBlk a_spec_SameAccesses.L b_spec_SameAccesses) 0 [⟨tLPILI, x0⟩, ⟨tLPILI, x1⟩]).bind (readOuts [.bool]) by kernel_rfl).trans ((Jstep2 (DKOf_eq c_spec_SameAccesses)).trans (by kernel_rfl))
theorem l1_spec_SameAccesses_eq (v0 : (List (Int × (List Int)))) (v16 : (List (Int × (List Int)))) (v80 : Int) : l1_spec_SameAccesses v0 v16 v80 =
    bif (decide (v80 < (v0.length : Int))) then
      (at? v0 v80).bind fun z1 =>
      (at? v16 v80).bind fun z2 =>
      (f_spec_l5Same z1 z2).bind fun z3 =>
      bif (!z3) then
        some false
      else
        l1_spec_SameAccesses v0 v16 (IntKind.wrap .i64 (v80 + (1 : Int)))
    else
      some true :=
  (show l1_spec_SameAccesses v0 v16 v80 = (Jl (DOf c_spec_SameAccesses) (irBlk a_spec_SameAccesses.L b_spec_SameAccesses) 1 [⟨tLPILI, v0⟩, ⟨tLPILI, v16⟩, ⟨tI, v80⟩]).bind (readOuts [.bool]) by kernel_rfl).trans ((Jstep2 (DKOf_eq c_spec_SameAccesses)).trans (by kernel_rfl))
/- loop.example/g01989/spec.IsPrefix -/
def s_spec_IsPrefix : Sig := ⟨24, [.v tLPILI, .v tLPILI], [(.bool, [none])]⟩
def a_spec_IsPrefix : FAnn := ⟨[⟨[(0, ⟨0, [], .va⟩), (15, ⟨0, [], .pl 1 false⟩), (16, ⟨0, [], .va⟩), (31, ⟨0, [], .pl 1 false⟩)], [0, 16]⟩],
  (.seq (.reg [aT]) (.seq (.reg [aR, aT, aR, aT, aT, aR, aR, aR, aR, aT, aT, aT, aT, aT]) .none)),
  []⟩
def b_spec_IsPrefix : List (Nat × Tree) := [(0, (.ins (.grp [] [.cp 64 (.c (.bool false))] .nil) (.ins (.grp [] [.cp 80 (.k 0)] (.grp [] [.len false 96 (.k 80)] (.grp [] [.cp 112 (.k 16)] (.grp [] [.len false 128 (.k 112)] (.grp [] [.bin .leq 144 (.k 96) (.k 128)] (.grp [] [.cp 160 (.k 144)] (.sel 272 160 (.grp [] [.cp 176 (.k 0)] (.grp [] [.cp 192 (.k 16)] (.grp [] [.cp 208 (.k 0)] (.grp [] [.len false 224 (.k 208)] (.grp [] [.sub tPILI 240 (.k 192) none (some (.k 224))] (.grp [] [.call 0 [(tLPILI, [(.k 176)]), (tLPILI, [(.k 240)])] [[256]]] .nil)))))) (.k 256) .nil (.c (.bool false)) (.grp [] [.cp 64 (.k 272)] .nil)))))))) (.ret [(.bool, [(.k 64)])]))))]
noncomputable def c_spec_IsPrefix : List Lf.Fn := [n_spec_SameAccesses]
noncomputable def f_spec_IsPrefix : (List (Int × (List Int))) → (List (Int × (List Int))) → Option (Bool) := tyd [tLPILI, tLPILI] [.bool] (fnD (DOf c_spec_IsPrefix) s_spec_IsPrefix a_spec_IsPrefix.L b_spec_IsPrefix)
noncomputable def n_spec_IsPrefix : Lf.Fn := ⟨s_spec_IsPrefix, [tLPILI, tLPILI], [.bool], f_spec_IsPrefix⟩
theorem k_spec_IsPrefix : compFn Try.prog (sigsOf c_spec_IsPrefix) s_spec_IsPrefix a_spec_IsPrefix = some b_spec_IsPrefix := by kernel_rfl
theorem g_spec_IsPrefix : Lf.Good Try.prog n_spec_IsPrefix := good_of (by simp only [c_spec_IsPrefix, List.mem_singleton]; rintro _ rfl; exact g_spec_SameAccesses) k_spec_IsPrefix (by kernel_rfl) ⟨Try.f24, by kernel_rfl, by kernel_rfl, by kernel_rfl⟩ [tLPILI, tLPILI] [.bool]
theorem f_spec_IsPrefix_eq (x0 : (List (Int × (List Int)))) (x1 : (List (Int × (List Int)))) : f_spec_IsPrefix x0 x1 =
    (bif (decide ((x0.length : Int) ≤ (x1.length : Int))) then if 0 ≤ (x0.length : Int) ∧ (x0.length : Int) ≤ (x1.length : Int) then
      (f_spec_SameAccesses x0 (x1.take (Int.toNat (x0.length : Int)))).bind fun z2 =>
      some z2
      else none else some false).bind fun z1 =>
    some z1 :=
  (show f_spec_IsPrefix x0 x1 = (Jl (DOf c_spec_IsPrefix) (irBlk a_spec_IsPrefix.L b_spec_IsPrefix) 0 [⟨tLPILI, x0⟩, ⟨tLPILI, x1⟩]).bind (readOuts [.bool]) by kernel_rfl).trans ((Jstep2 (DKOf_eq c_spec_IsPrefix)).trans (by kernel_rfl))
/- slices.Equal[[]int,int] -/
def s_slices_Equal_int : Sig := ⟨60, [.v tLI, .v tLI], [(.bool, [none])]⟩
def a_slices_Equal_int : FAnn := ⟨[⟨[(0, ⟨0, [], .va⟩), (15, ⟨0, [], .pl 1 false⟩), (16, ⟨0, [], .va⟩), (31, ⟨0, [], .pl 1 false⟩)], [0, 16]⟩,
    ⟨[(0, ⟨0, [], .va⟩), (15, ⟨0, [], .pl 1 false⟩), (16, ⟨0, [], .va⟩), (31, ⟨0, [], .pl 1 false⟩), (192, ⟨0, [], .va⟩), (207, ⟨0, [], .pl 1 false⟩), (208, ⟨0, [], .va⟩), (223, ⟨0, [], .pl 1 false⟩)], [0, 16, 192, 208]⟩],
  (.seq (.reg [aT]) (.seq (.seq (.reg [aR, aT, aR, aT, aT]) (.cond none (.seq (.reg [aT]) .none) .none)) (.seq (.seq (.reg [aR, aT, aR]) (.block none (.loop 1 (.seq (.reg [aT]) (.seq (.cond none .none .none) (.seq (.block none (.seq (.reg [aR, aT]) (.seq (.reg [aR, aR, aT, aT, aR, aR, aT, aT, aT]) (.cond none (.seq (.reg [aT]) .none) .none)))) (.reg [aT, aR]))))))) (.seq (.reg [aT]) .none)))),
  []⟩
def b_slices_Equal_int : List (Nat × Tree) := [(0, (.ins (.grp [] [.cp 64 (.c (.bool false))] .nil) (.ins (.grp [] [.cp 96 (.k 0)] (.grp [] [.len false 112 (.k 96)] (.grp [] [.cp 128 (.k 16)] (.grp [] [.len false 144 (.k 128)] (.grp [] [.bin .neq 160 (.k 112) (.k 144)] .nil))))) (.ite (.k 160) (.ins (.grp [] [.cp 64 (.c (.bool false))] .nil) (.ret [(.bool, [(.k 64)])])) (.ins (.grp [] [.cp 176 (.k 0)] (.grp [] [.len false 192 (.k 176)] (.grp [] [.cp 208 (.c (.int .i64 (0)))] .nil))) (.jump 1 [0, 16, 192, 208])))))),
  (1, (.ins (.grp [] [.bin .lss 224 (.k 208) (.k 192)] .nil) (.ite (.k 224) (.ins (.grp [] [.cp 240 (.k 208)] (.grp [] [.cp 80 (.k 240)] .nil)) (.ins (.grp [] [.cp 256 (.k 0)] (.grp [] [.cp 272 (.k 80)] (.grp [] [.idx (some tI) [288] 0 (.k 256) (.k 272)] (.grp [] [.cp 304 (.k 288)] (.grp [] [.cp 320 (.k 16)] (.grp [] [.cp 336 (.k 80)] (.grp [] [.idx (some tI) [352] 0 (.k 320) (.k 336)] (.grp [] [.cp 368 (.k 352)] (.grp [] [.bin .neq 384 (.k 304) (.k 368)] .nil))))))))) (.ite (.k 384) (.ins (.grp [] [.cp 64 (.c (.bool false))] .nil) (.ret [(.bool, [(.k 64)])])) (.ins (.grp [] [.bin .add 400 (.k 208) (.c (.int .i64 (1)))] (.grp [] [.cp 208 (.k 400)] .nil)) (.jump 1 [0, 16, 192, 208]))))) (.ins (.grp [] [.cp 64 (.c (.bool true))] .nil) (.ret [(.bool, [(.k 64)])])))))]
noncomputable def c_slices_Equal_int : List Lf.Fn := []
noncomputable def f_slices_Equal_int : (List Int) → (List Int) → Option (Bool) := tyd [tLI, tLI] [.bool] (fnD (DOf c_slices_Equal_int) s_slices_Equal_int a_slices_Equal_int.L b_slices_Equal_int)
noncomputable def n_slices_Equal_int : Lf.Fn := ⟨s_slices_Equal_int, [tLI, tLI], [.bool], f_slices_Equal_int⟩
noncomputable def l1_slices_Equal_int (v0 : (List Int)) (v16 : (List Int)) (v192 : Int) (v208 : Int) : Option (Bool) := (Jl (DOf c_slices_Equal_int) (irBlk a_slices_Equal_int.L b_slices_Equal_int) 1 [⟨tLI, v0⟩, ⟨tLI, v16⟩, ⟨tI, v192⟩, ⟨tI, v208⟩]).bind (readOuts [.bool])
theorem k_slices_Equal_int : compFn Try.prog (sigsOf c_slices_Equal_int) s_slices_Equal_int a_slices_Equal_int = some b_slices_Equal_int := by kernel_rfl
theorem g_slices_Equal_int : Lf.Good Try.prog n_slices_Equal_int := good_of (by intro _ h; simp [c_slices_Equal_int] at h) k_slices_Equal_int (by kernel_rfl) ⟨Try.f60, by kernel_rfl, by kernel_rfl, by kernel_rfl⟩ [tLI, tLI] [.bool]
theorem f_slices_Equal_int_eq (x0 : (List Int)) (x1 : (List Int)) : f_slices_Equal_int x0 x1 =
    bif ((x0.length : Int) != (x1.length : Int)) then
      some false
    else
      l1_slices_Equal_int x0 x1 (x0.length : Int) (0 : Int) :=
  (show f_slices_Equal_int x0 x1 = (Jl (DOf c_slices_Equal_int) (irBlk a_slices_Equal_int.L b_slices_Equal_int) 0 [⟨tLI, x0⟩, ⟨tLI, x1⟩]).bind (readOuts [.bool]) by kernel_rfl).trans ((Jstep2 (DKOf_eq c_slices_Equal_int)).trans (by kernel_rfl))
theorem l1_slices_Equal_int_eq (v0 : (List Int)) (v16 : (List Int)) (v192 : Int) (v208 : Int) : l1_slices_Equal_int v0 v16 v192 v208 =
    bif (decide (v208 < v192)) then
      (at? v0 v208).bind fun z1 =>
      (at? v16 v208).bind fun z2 =>
      bif (z1 != z2) then
        some false
      else
        l1_slices_Equal_int v0 v16 v192 (IntKind.wrap .i64 (v208 + (1 : Int)))
    else
      some true :=
  (show l1_slices_Equal_int v0 v16 v192 v208 = (Jl (DOf c_slices_Equal_int) (irBlk a_slices_Equal_int.L b_slices_Equal_int) 1 [⟨tLI, v0⟩, ⟨tLI, v16⟩, ⟨tI, v192⟩, ⟨tI, v208⟩]).bind (readOuts [.bool]) by kernel_rfl).trans ((Jstep2 (DKOf_eq c_slices_Equal_int)).trans (by kernel_rfl))
/- loop.example/g01989/impl.sameAccess -/
def s_impl_sameAccess : Sig := ⟨55, [.v tPILI, .v tPILI], [(.bool, [none])]⟩
def a_impl_sameAccess : FAnn := ⟨[⟨[(0, ⟨0, [], .va⟩), (1, ⟨0, [], .va⟩), (15, ⟨0, [], .pl 2 true⟩), (16, ⟨0, [], .va⟩), (17, ⟨0, [], .va⟩), (31, ⟨0, [], .pl 2 true⟩)], [0, 1, 16, 17]⟩],
  (.seq (.reg [aT, aT, aT]) (.seq (.reg [aT, aT, aT, aT, aT, aR, aT, aT, aT, aT, aT, aT, aT]) .none)),
  []⟩
def b_impl_sameAccess : List (Nat × Tree) := [(0, (.ins (.grp [] [.cp 32 (.k 0), .cp 33 (.k 1)] (.grp [] [.cp 48 (.k 16), .cp 49 (.k 17)] (.grp [] [.cp 64 (.c (.bool false))] .nil))) (.ins (.grp [] [.cp 96 (.k 32)] (.grp [] [.cp 128 (.k 48)] (.grp [] [.bin .eql 144 (.k 96) (.k 128)] (.grp [] [.cp 160 (.k 144)] (.sel 256 160 (.grp [] [.cp 192 (.k 33)] (.grp [] [.cp 224 (.k 49)] (.grp [] [.call 0 [(tLI, [(.k 192)]), (tLI, [(.k 224)])] [[240]]] .nil))) (.k 240) .nil (.c (.bool false)) (.grp [] [.cp 64 (.k 256)] .nil)))))) (.ret [(.bool, [(.k 64)])]))))]
noncomputable def c_impl_sameAccess : List Lf.Fn := [n_slices_Equal_int]
noncomputable def f_impl_sameAccess : (Int × (List Int)) → (Int × (List Int)) → Option (Bool) := tyd [tPILI, tPILI] [.bool] (fnD (DOf c_impl_sameAccess) s_impl_sameAccess a_impl_sameAccess.L b_impl_sameAccess)
noncomputable def n_impl_sameAccess : Lf.Fn := ⟨s_impl_sameAccess, [tPILI, tPILI], [.bool], f_impl_sameAccess⟩
theorem k_impl_sameAccess : compFn Try.prog (sigsOf c_impl_sameAccess) s_impl_sameAccess a_impl_sameAccess = some b_impl_sameAccess := by kernel_rfl
theorem g_impl_sameAccess : Lf.Good Try.prog n_impl_sameAccess := good_of (by simp only [c_impl_sameAccess, List.mem_singleton]; rintro _ rfl; exact g_slices_Equal_int) k_impl_sameAccess (by kernel_rfl) ⟨Try.f55, by kernel_rfl, by kernel_rfl, by kernel_rfl⟩ [tPILI, tPILI] [.bool]
theorem f_impl_sameAccess_eq (x0 : (Int × (List Int))) (x1 : (Int × (List Int))) : f_impl_sameAccess x0 x1 =
    (bif (x0.1 == x1.1) then (f_slices_Equal_int x0.2 x1.2).bind fun z2 =>
      some z2 else some false).bind fun z1 =>
    some z1 :=
  (show f_impl_sameAccess x0 x1 = (Jl (DOf c_impl_sameAccess) (irBlk a_impl_sameAccess.L b_impl_sameAccess) 0 [⟨tI, x0.1⟩, ⟨tLI, x0.2⟩, ⟨tI, x1.1⟩, ⟨tLI, x1.2⟩]).bind (readOuts [.bool]) by kernel_rfl).trans ((Jstep2 (DKOf_eq c_impl_sameAccess)).trans (by kernel_rfl))
/- slices.EqualFunc[[]loop.example/g01989/impl.Access,[]loop.example/g01989/impl.Access,loop.example/g01989/impl.Access,loop.example/g01989/impl.Access] -/
def s_slices_EqualFunc_Access__impl_sameAccess : Sig := ⟨54, [.v tLPILI, .v tLPILI, .c 55 []], [(.bool, [none])]⟩
def a_slices_EqualFunc_Access__impl_sameAccess : FAnn := ⟨[⟨[(0, ⟨0, [], .va⟩), (15, ⟨0, [], .pl 1 false⟩), (16, ⟨0, [], .va⟩), (31, ⟨0, [], .pl 1 false⟩), (47, ⟨0, [], .cp 55 []⟩)], [0, 16]⟩,
    ⟨[(16, ⟨0, [], .va⟩), (31, ⟨0, [], .pl 1 false⟩), (47, ⟨0, [], .cp 55 []⟩), (240, ⟨0, [], .va⟩), (255, ⟨0, [], .pl 1 false⟩), (256, ⟨0, [], .va⟩), (271, ⟨0, [], .pl 1 false⟩), (272, ⟨0, [], .va⟩), (287, ⟨0, [], .pl 1 false⟩)], [16, 240, 256, 272]⟩],
  (.seq (.reg [aT]) (.seq (.seq (.reg [aR, aT, aR, aT, aT]) (.cond none (.seq (.reg [aT]) .none) .none)) (.seq (.seq (.reg [aR, aT, aR]) (.block none (.loop 1 (.seq (.reg [aT]) (.seq (.cond none .none .none) (.seq (.block none (.seq (.reg [aR, aT, aT, aT, aT, aT]) (.seq (.reg [aR, aR, aT, aT, aT, aT]) (.seq (.reg [aR, aT, aT, aT, aT]) (.cond none (.seq (.reg [aT]) .none) .none))))) (.reg [aT, aR]))))))) (.seq (.reg [aT]) .none)))),
  []⟩
def b_slices_EqualFunc_Access__impl_sameAccess : List (Nat × Tree) := [(0, (.ins (.grp [] [.cp 96 (.c (.bool false))] .nil) (.ins (.grp [] [.cp 160 (.k 0)] (.grp [] [.len false 176 (.k 160)] (.grp [] [.cp 192 (.k 16)] (.grp [] [.len false 208 (.k 192)] (.grp [] [.bin .neq 224 (.k 176) (.k 208)] .nil))))) (.ite (.k 224) (.ins (.grp [] [.cp 96 (.c (.bool false))] .nil) (.ret [(.bool, [(.k 96)])])) (.ins (.grp [] [.cp 240 (.k 0)] (.grp [] [.len false 256 (.k 240)] (.grp [] [.cp 272 (.c (.int .i64 (0)))] .nil))) (.jump 1 [16, 240, 256, 272])))))),
  (1, (.ins (.grp [] [.bin .lss 288 (.k 272) (.k 256)] .nil) (.ite (.k 288) (.ins (.grp [] [.cp 304 (.k 272)] (.grp [] [.idx (some tPILI) [320, 321] 0 (.k 240) (.k 272)] (.grp [] [.cp 336 (.k 320), .cp 337 (.k 321)] (.grp [] [.cp 128 (.c (.int .i64 (0))), .cp 129 (.c (.nil tI))] (.grp [] [.cp 112 (.k 304)] (.grp [] [.cp 128 (.k 336), .cp 129 (.k 337)] .nil)))))) (.ins (.grp [] [.cp 352 (.k 16)] (.grp [] [.cp 368 (.k 112)] (.grp [] [.idx (some tPILI) [384, 385] 0 (.k 352) (.k 368)] (.grp [] [.cp 400 (.k 384), .cp 401 (.k 385)] (.grp [] [.cp 144 (.c (.int .i64 (0))), .cp 145 (.c (.nil tI))] (.grp [] [.cp 144 (.k 400), .cp 145 (.k 401)] .nil)))))) (.ins (.grp [] [.cp 432 (.k 128), .cp 433 (.k 129)] (.grp [] [.cp 448 (.k 144), .cp 449 (.k 145)] (.grp [] [.call 0 [(tPILI, [(.k 432), (.k 433)]), (tPILI, [(.k 448), (.k 449)])] [[464]]] (.grp [] [.not 480 (.k 464)] .nil)))) (.ite (.k 480) (.ins (.grp [] [.cp 96 (.c (.bool false))] .nil) (.ret [(.bool, [(.k 96)])])) (.ins (.grp [] [.bin .add 496 (.k 272) (.c (.int .i64 (1)))] (.grp [] [.cp 272 (.k 496)] .nil)) (.jump 1 [16, 240, 256, 272])))))) (.ins (.grp [] [.cp 96 (.c (.bool true))] .nil) (.ret [(.bool, [(.k 96)])])))))]
noncomputable def c_slices_EqualFunc_Access__impl_sameAccess : List Lf.Fn := [n_impl_sameAccess]
noncomputable def f_slices_EqualFunc_Access__impl_sameAccess : (List (Int × (List Int))) → (List (Int × (List Int))) → Option (Bool) := tyd [tLPILI, tLPILI] [.bool] (fnD (DOf c_slices_EqualFunc_Access__impl_sameAccess) s_slices_EqualFunc_Access__impl_sameAccess a_slices_EqualFunc_Access__impl_sameAccess.L b_slices_EqualFunc_Access__impl_sameAccess)
noncomputable def n_slices_EqualFunc_Access__impl_sameAccess : Lf.Fn := ⟨s_slices_EqualFunc_Access__impl_sameAccess, [tLPILI, tLPILI], [.bool], f_slices_EqualFunc_Access__impl_sameAccess⟩
noncomputable def l1_slices_EqualFunc_Access__impl_sameAccess (v16 : (List (Int × (List Int)))) (v240 : (List (Int × (List Int)))) (v256 : Int) (v272 : Int) : Option (Bool) := (Jl (DOf c_slices_EqualFunc_Access__impl_sameAccess) (irBlk a_slices_EqualFunc_Access__impl_sameAccess.L b_slices_EqualFunc_Access__impl_sameAccess) 1 [⟨tLPILI, v16⟩, ⟨tLPILI, v240⟩, ⟨tI, v256⟩, ⟨tI, v272⟩]).bind (readOuts [.bool])
theorem k_slices_EqualFunc_Access__impl_sameAccess : compFn Try.prog (sigsOf c_slices_EqualFunc_Access__impl_sameAccess) s_slices_EqualFunc_Access__impl_sameAccess a_slices_EqualFunc_Access__impl_sameAccess = some b_slices_EqualFunc_Access__impl_sameAccess := by kernel_rfl
theorem g_slices_EqualFunc_Access__impl_sameAccess : Lf.Good Try.prog n_slices_EqualFunc_Access__impl_sameAccess := good_of (by simp only [c_slices_EqualFunc_Access__impl_sameAccess, List.mem_singleton]; rintro _ rfl; exact g_impl_sameAccess) k_slices_EqualFunc_Access__impl_sameAccess (by kernel_rfl) ⟨Try.f54, by kernel_rfl, by kernel_rfl, by kernel_rfl⟩ [tLPILI, tLPILI] [.bool]
theorem f_slices_EqualFunc_Access__impl_sameAccess_eq (x0 : (List (Int × (List Int)))) (x1 : (List (Int × (List Int)))) : f_slices_EqualFunc_Access__impl_sameAccess x0 x1 =
    bif ((x0.length : Int) != (x1.length : Int)) then
      some false
    else
      l1_slices_EqualFunc_Access__impl_sameAccess x1 x0 (x0.length : Int) (0 : Int) :=
  (show f_slices_EqualFunc_Access__impl_sameAccess x0 x1 = (Jl (DOf c_slices_EqualFunc_Access__impl_sameAccess) (irBlk a_slices_EqualFunc_Access__impl_sameAccess.L b_slices_EqualFunc_Access__impl_sameAccess) 0 [⟨tLPILI, x0⟩, ⟨tLPILI, x1⟩]).bind (readOuts [.bool]) by kernel_rfl).trans ((Jstep2 (DKOf_eq c_slices_EqualFunc_Access__impl_sameAccess)).trans (by kernel_rfl))
theorem l1_slices_EqualFunc_Access__impl_sameAccess_eq (v16 : (List (Int × (List Int)))) (v240 : (List (Int × (List Int)))) (v256 : Int) (v272 : Int) : l1_slices_EqualFunc_Access__impl_sameAccess v16 v240 v256 v272 =
    bif (decide (v272 < v256)) then
      (at? v240 v272).bind fun z1 =>
      (at? v16 v272).bind fun z2 =>
      (f_impl_sameAccess z1 z2).bind fun z3 =>
      bif (!z3) then
        some false
      else
        l1_slices_EqualFunc_Access__impl_sameAccess v16 v240 v256 (IntKind.wrap .i64 (v272 + (1 : Int)))
    else
      some true :=
  (show l1_slices_EqualFunc_Access__impl_sameAccess v16 v240 v256 v272 = (Jl (DOf c_slices_EqualFunc_Access__impl_sameAccess) (irBlk a_slices_EqualFunc_Access__impl_sameAccess.L b_slices_EqualFunc_Access__impl_sameAccess) 1 [⟨tLPILI, v16⟩, ⟨tLPILI, v240⟩, ⟨tI, v256⟩, ⟨tI, v272⟩]).bind (readOuts [.bool]) by kernel_rfl).trans ((Jstep2 (DKOf_eq c_slices_EqualFunc_Access__impl_sameAccess)).trans (by kernel_rfl))
/- loop.example/g01989/impl.SameAccesses -/
def s_impl_SameAccesses : Sig := ⟨44, [.v tLPILI, .v tLPILI], [(.bool, [none])]⟩
def a_impl_SameAccesses : FAnn := ⟨[⟨[(0, ⟨0, [], .va⟩), (15, ⟨0, [], .pl 1 false⟩), (16, ⟨0, [], .va⟩), (31, ⟨0, [], .pl 1 false⟩)], [0, 16]⟩],
  (.seq (.reg [aT]) (.seq (.reg [aR, aR, aT, aT]) .none)),
  []⟩
def b_impl_SameAccesses : List (Nat × Tree) := [(0, (.ins (.grp [] [.cp 64 (.c (.bool false))] .nil) (.ins (.grp [] [.cp 80 (.k 0)] (.grp [] [.cp 96 (.k 16)] (.grp [] [.call 0 [(tLPILI, [(.k 80)]), (tLPILI, [(.k 96)])] [[112]]] (.grp [] [.cp 64 (.k 112)] .nil)))) (.ret [(.bool, [(.k 64)])]))))]
noncomputable def c_impl_SameAccesses : List Lf.Fn := [n_slices_EqualFunc_Access__impl_sameAccess]
noncomputable def f_impl_SameAccesses : (List (Int × (List Int))) → (List (Int × (List Int))) → Option (Bool) := tyd [tLPILI, tLPILI] [.bool] (fnD (DOf c_impl_SameAccesses) s_impl_SameAccesses a_impl_SameAccesses.L b_impl_SameAccesses)
noncomputable def n_impl_SameAccesses : Lf.Fn := ⟨s_impl_SameAccesses, [tLPILI, tLPILI], [.bool], f_impl_SameAccesses⟩
theorem k_impl_SameAccesses : compFn Try.prog (sigsOf c_impl_SameAccesses) s_impl_SameAccesses a_impl_SameAccesses = some b_impl_SameAccesses := by kernel_rfl
theorem g_impl_SameAccesses : Lf.Good Try.prog n_impl_SameAccesses := good_of (by simp only [c_impl_SameAccesses, List.mem_singleton]; rintro _ rfl; exact g_slices_EqualFunc_Access__impl_sameAccess) k_impl_SameAccesses (by kernel_rfl) ⟨Try.f44, by kernel_rfl, by kernel_rfl, by kernel_rfl⟩ [tLPILI, tLPILI] [.bool]
theorem f_impl_SameAccesses_eq (x0 : (List (Int × (List Int)))) (x1 : (List (Int × (List Int)))) : f_impl_SameAccesses x0 x1 =
    (f_slices_EqualFunc_Access__impl_sameAccess x0 x1).bind fun z1 =>
    some z1 :=
  (show f_impl_SameAccesses x0 x1 = (Jl (DOf c_impl_SameAccesses) (irBlk a_impl_SameAccesses.L b_impl_SameAccesses) 0 [⟨tLPILI, x0⟩, ⟨tLPILI, x1⟩]).bind (readOuts [.bool]) by kernel_rfl).trans ((Jstep2 (DKOf_eq c_impl_SameAccesses)).trans (by kernel_rfl))
/- loop.example/g01989/impl.IsPrefix -/
def s_impl_IsPrefix : Sig := ⟨26, [.v tLPILI, .v tLPILI], [(.bool, [none])]⟩
def a_impl_IsPrefix : FAnn := ⟨[⟨[(0, ⟨0, [], .va⟩), (15, ⟨0, [], .pl 1 false⟩), (16, ⟨0, [], .va⟩), (31, ⟨0, [], .pl 1 false⟩)], [0, 16]⟩],
  (.seq (.reg [aT]) (.seq (.reg [aR, aT, aR, aT, aT, aR, aR, aR, aR, aT, aT, aT, aT, aT]) .none)),
  []⟩
def b_impl_IsPrefix : List (Nat × Tree) := [(0, (.ins (.grp [] [.cp 64 (.c (.bool false))] .nil) (.ins (.grp [] [.cp 80 (.k 0)] (.grp [] [.len false 96 (.k 80)] (.grp [] [.cp 112 (.k 16)] (.grp [] [.len false 128 (.k 112)] (.grp [] [.bin .leq 144 (.k 96) (.k 128)] (.grp [] [.cp 160 (.k 144)] (.sel 272 160 (.grp [] [.cp 176 (.k 0)] (.grp [] [.cp 192 (.k 16)] (.grp [] [.cp 208 (.k 0)] (.grp [] [.len false 224 (.k 208)] (.grp [] [.sub tPILI 240 (.k 192) none (some (.k 224))] (.grp [] [.call 0 [(tLPILI, [(.k 176)]), (tLPILI, [(.k 240)])] [[256]]] .nil)))))) (.k 256) .nil (.c (.bool false)) (.grp [] [.cp 64 (.k 272)] .nil)))))))) (.ret [(.bool, [(.k 64)])]))))]
noncomputable def c_impl_IsPrefix : List Lf.Fn := [n_impl_SameAccesses]
noncomputable def f_impl_IsPrefix : (List (Int × (List Int))) → (List (Int × (List Int))) → Option (Bool) := tyd [tLPILI, tLPILI] [.bool] (fnD (DOf c_impl_IsPrefix) s_impl_IsPrefix a_impl_IsPrefix.L b_impl_IsPrefix)
noncomputable def n_impl_IsPrefix : Lf.Fn := ⟨s_impl_IsPrefix, [tLPILI, tLPILI], [.bool], f_impl_IsPrefix⟩
theorem k_impl_IsPrefix : compFn Try.prog (sigsOf c_impl_IsPrefix) s_impl_IsPrefix a_impl_IsPrefix = some b_impl_IsPrefix := by kernel_rfl
theorem g_impl_IsPrefix : Lf.Good Try.prog n_impl_IsPrefix := good_of (by simp only [c_impl_IsPrefix, List.mem_singleton]; rintro _ rfl; exact g_impl_SameAccesses) k_impl_IsPrefix (by kernel_rfl) ⟨Try.f26, by kernel_rfl, by kernel_rfl, by kernel_rfl⟩ [tLPILI, tLPILI] [.bool]
theorem f_impl_IsPrefix_eq (x0 : (List (Int × (List Int)))) (x1 : (List (Int × (List Int)))) : f_impl_IsPrefix x0 x1 =
    (bif (decide ((x0.length : Int) ≤ (x1.length : Int))) then if 0 ≤ (x0.length : Int) ∧ (x0.length : Int) ≤ (x1.length : Int) then
      (f_impl_SameAccesses x0 (x1.take (Int.toNat (x0.length : Int)))).bind fun z2 =>
      some z2
      else none else some false).bind fun z1 =>
    some z1 :=
  (show f_impl_IsPrefix x0 x1 = (Jl (DOf c_impl_IsPrefix) (irBlk a_impl_IsPrefix.L b_impl_IsPrefix) 0 [⟨tLPILI, x0⟩, ⟨tLPILI, x1⟩]).bind (readOuts [.bool]) by kernel_rfl).trans ((Jstep2 (DKOf_eq c_impl_IsPrefix)).trans (by kernel_rfl))
/- loop.example/g01989/laws.eqIntS -/
def s_laws_eqIntS : Sig := ⟨18, [.v tLI, .v tLI], [(.bool, [none])]⟩
def a_laws_eqIntS : FAnn := ⟨[⟨[(0, ⟨0, [], .va⟩), (15, ⟨0, [], .pl 1 false⟩), (16, ⟨0, [], .va⟩), (31, ⟨0, [], .pl 1 false⟩)], [0, 16]⟩,
    ⟨[(0, ⟨0, [], .va⟩), (15, ⟨0, [], .pl 1 false⟩), (16, ⟨0, [], .va⟩), (31, ⟨0, [], .pl 1 false⟩), (80, ⟨0, [], .va⟩), (95, ⟨0, [], .pl 1 false⟩)], [0, 16, 80]⟩],
  (.seq (.reg [aT]) (.seq (.seq (.reg [aR, aT, aR, aT, aT]) (.cond none (.seq (.reg [aT]) .none) .none)) (.seq (.seq (.reg [aT]) (.block none (.loop 1 (.seq (.seq (.reg [aR, aR, aT, aT]) (.cond none .none .none)) (.seq (.block none (.seq (.reg [aR, aR, aT, aT, aR, aR, aT, aT, aT]) (.cond none (.seq (.reg [aT]) .none) .none))) (.reg [aR, aT, aT])))))) (.seq (.reg [aT]) .none)))),
  []⟩
def b_laws_eqIntS : List (Nat × Tree) := [(0, (.ins (.grp [] [.cp 64 (.c (.bool false))] .nil) (.ins (.grp [] [.cp 96 (.k 0)] (.grp [] [.len false 112 (.k 96)] (.grp [] [.cp 128 (.k 16)] (.grp [] [.len false 144 (.k 128)] (.grp [] [.bin .neq 160 (.k 112) (.k 144)] .nil))))) (.ite (.k 160) (.ins (.grp [] [.cp 64 (.c (.bool false))] .nil) (.ret [(.bool, [(.k 64)])])) (.ins (.grp [] [.cp 80 (.c (.int .i64 (0)))] .nil) (.jump 1 [0, 16, 80])))))),
  (1, (.ins (.grp [] [.cp 176 (.k 80)] (.grp [] [.cp 192 (.k 0)] (.grp [] [.len false 208 (.k 192)] (.grp [] [.bin .lss 224 (.k 176) (.k 208)] .nil)))) (.ite (.k 224) (.ins (.grp [] [.cp 272 (.k 0)] (.grp [] [.cp 288 (.k 80)] (.grp [] [.idx (some tI) [304] 0 (.k 272) (.k 288)] (.grp [] [.cp 320 (.k 304)] (.grp [] [.cp 336 (.k 16)] (.grp [] [.cp 352 (.k 80)] (.grp [] [.idx (some tI) [368] 0 (.k 336) (.k 352)] (.grp [] [.cp 384 (.k 368)] (.grp [] [.bin .neq 400 (.k 320) (.k 384)] .nil))))))))) (.ite (.k 400) (.ins (.grp [] [.cp 64 (.c (.bool false))] .nil) (.ret [(.bool, [(.k 64)])])) (.ins (.grp [] [.cp 240 (.k 80)] (.grp [] [.bin .add 256 (.k 240) (.c (.int .i64 (1)))] (.grp [] [.cp 80 (.k 256)] .nil))) (.jump 1 [0, 16, 80])))) (.ins (.grp [] [.cp 64 (.c (.bool true))] .nil) (.ret [(.bool, [(.k 64)])])))))]
noncomputable def c_laws_eqIntS : List Lf.Fn := []
noncomputable def f_laws_eqIntS : (List Int) → (List Int) → Option (Bool) := tyd [tLI, tLI] [.bool] (fnD (DOf c_laws_eqIntS) s_laws_eqIntS a_laws_eqIntS.L b_laws_eqIntS)
noncomputable def n_laws_eqIntS : Lf.Fn := ⟨s_laws_eqIntS, [tLI, tLI], [.bool], f_laws_eqIntS⟩
noncomputable def l1_laws_eqIntS (v0 : (List Int)) (v16 : (List Int)) (v80 : Int) : Option (Bool) := (Jl (DOf c_laws_eqIntS) (irBlk a_laws_eqIntS.L b_laws_eqIntS) 1 [⟨tLI, v0⟩, ⟨tLI, v16⟩, ⟨tI, v80⟩]).bind (readOuts [.bool])
theorem k_laws_eqIntS : compFn Try.prog (sigsOf c_laws_eqIntS) s_laws_eqIntS a_laws_eqIntS = some b_laws_eqIntS := by kernel_rfl
theorem g_laws_eqIntS : Lf.Good Try.prog n_laws_eqIntS := good_of (by intro _ h; simp [c_laws_eqIntS] at h) k_laws_eqIntS (by kernel_rfl) ⟨Try.f18, by kernel_rfl, by kernel_rfl, by kernel_rfl⟩ [tLI, tLI] [.bool]
theorem f_laws_eqIntS_eq (x0 : (List Int)) (x1 : (List Int)) : f_laws_eqIntS x0 x1 =
    bif ((x0.length : Int) != (x1.length : Int)) then
      some false
    else
      l1_laws_eqIntS x0 x1 (0 : Int) :=
  (show f_laws_eqIntS x0 x1 = (Jl (DOf c_laws_eqIntS) (irBlk a_laws_eqIntS.L b_laws_eqIntS) 0 [⟨tLI, x0⟩, ⟨tLI, x1⟩]).bind (readOuts [.bool]) by kernel_rfl).trans ((Jstep2 (DKOf_eq c_laws_eqIntS)).trans (by kernel_rfl))
theorem l1_laws_eqIntS_eq (v0 : (List Int)) (v16 : (List Int)) (v80 : Int) : l1_laws_eqIntS v0 v16 v80 =
    bif (decide (v80 < (v0.length : Int))) then
      (at? v0 v80).bind fun z1 =>
      (at? v16 v80).bind fun z2 =>
      bif (z1 != z2) then
        some false
      else
        l1_laws_eqIntS v0 v16 (IntKind.wrap .i64 (v80 + (1 : Int)))
    else
      some true :=
  (show l1_laws_eqIntS v0 v16 v80 = (Jl (DOf c_laws_eqIntS) (irBlk a_laws_eqIntS.L b_laws_eqIntS) 1 [⟨tLI, v0⟩, ⟨tLI, v16⟩, ⟨tI, v80⟩]).bind (readOuts [.bool]) by kernel_rfl).trans ((Jstep2 (DKOf_eq c_laws_eqIntS)).trans (by kernel_rfl))
/- loop.example/g01989/laws.eqAccess -/
def s_laws_eqAccess : Sig := ⟨45, [.v tPILI, .v tPILI], [(.bool, [none])]⟩
def a_laws_eqAccess : FAnn := ⟨[⟨[(0, ⟨0, [], .va⟩), (1, ⟨0, [], .va⟩), (15, ⟨0, [], .pl 2 true⟩), (16, ⟨0, [], .va⟩), (17, ⟨0, [], .va⟩), (31, ⟨0, [], .pl 2 true⟩)], [0, 1, 16, 17]⟩],
  (.seq (.reg [aT, aT, aT]) (.seq (.seq (.reg [aT, aT, aT, aT, aT]) (.cond none (.seq (.reg [aT]) .none) .none)) (.seq (.seq (.reg [aT, aT, aT, aT, aT, aT]) (.cond none (.seq (.reg [aT]) .none) .none)) (.seq (.reg [aT]) .none)))),
  []⟩
def b_laws_eqAccess : List (Nat × Tree) := [(0, (.ins (.grp [] [.cp 32 (.k 0), .cp 33 (.k 1)] (.grp [] [.cp 48 (.k 16), .cp 49 (.k 17)] (.grp [] [.cp 64 (.c (.bool false))] .nil))) (.ins (.grp [] [.cp 96 (.k 32)] (.grp [] [.cp 128 (.k 48)] (.grp [] [.bin .neq 144 (.k 96) (.k 128)] .nil))) (.ite (.k 144) (.ins (.grp [] [.cp 64 (.c (.bool false))] .nil) (.ret [(.bool, [(.k 64)])])) (.ins (.grp [] [.cp 176 (.k 33)] (.grp [] [.cp 208 (.k 49)] (.grp [] [.call 0 [(tLI, [(.k 176)]), (tLI, [(.k 208)])] [[224]]] (.grp [] [.not 240 (.k 224)] .nil)))) (.ite (.k 240) (.ins (.grp [] [.cp 64 (.c (.bool false))] .nil) (.ret [(.bool, [(.k 64)])])) (.ins (.grp [] [.cp 64 (.c (.bool true))] .nil) (.ret [(.bool, [(.k 64)])]))))))))]
noncomputable def c_laws_eqAccess : List Lf.Fn := [n_laws_eqIntS]
noncomputable def f_laws_eqAccess : (Int × (List Int)) → (Int × (List Int)) → Option (Bool) := tyd [tPILI, tPILI] [.bool] (fnD (DOf c_laws_eqAccess) s_laws_eqAccess a_laws_eqAccess.L b_laws_eqAccess)
noncomputable def n_laws_eqAccess : Lf.Fn := ⟨s_laws_eqAccess, [tPILI, tPILI], [.bool], f_laws_eqAccess⟩
theorem k_laws_eqAccess : compFn Try.prog (sigsOf c_laws_eqAccess) s_laws_eqAccess a_laws_eqAccess = some b_laws_eqAccess := by kernel_rfl
theorem g_laws_eqAccess : Lf.Good Try.prog n_laws_eqAccess := good_of (by simp only [c_laws_eqAccess, List.mem_singleton]; rintro _ rfl; exact g_laws_eqIntS) k_laws_eqAccess (by kernel_rfl) ⟨Try.f45, by kernel_rfl, by kernel_rfl, by kernel_rfl⟩ [tPILI, tPILI] [.bool]
theorem f_laws_eqAccess_eq (x0 : (Int × (List Int))) (x1 : (Int × (List Int))) : f_laws_eqAccess x0 x1 =
    bif (x0.1 != x1.1) then
      some false
    else
      (f_laws_eqIntS x0.2 x1.2).bind fun z1 =>
      bif (!z1) then
        some false
      else
        some true :=
  (show f_laws_eqAccess x0 x1 = (Jl (DOf c_laws_eqAccess) (irBlk a_laws_eqAccess.L b_laws_eqAccess) 0 [⟨tI, x0.1⟩, ⟨tLI, x0.2⟩, ⟨tI, x1.1⟩, ⟨tLI, x1.2⟩]).bind (readOuts [.bool]) by kernel_rfl).trans ((Jstep2 (DKOf_eq c_laws_eqAccess)).trans (by kernel_rfl))
/- loop.example/g01989/laws.eqAccessS -/
def s_laws_eqAccessS : Sig := ⟨27, [.v tLPILI, .v tLPILI], [(.bool, [none])]⟩
def a_laws_eqAccessS : FAnn := ⟨[⟨[(0, ⟨0, [], .va⟩), (15, ⟨0, [], .pl 1 false⟩), (16, ⟨0, [], .va⟩), (31, ⟨0, [], .pl 1 false⟩)], [0, 16]⟩,
    ⟨[(0, ⟨0, [], .va⟩), (15, ⟨0, [], .pl 1 false⟩), (16, ⟨0, [], .va⟩), (31, ⟨0, [], .pl 1 false⟩), (80, ⟨0, [], .va⟩), (95, ⟨0, [], .pl 1 false⟩)], [0, 16, 80]⟩],
  (.seq (.reg [aT]) (.seq (.seq (.reg [aR, aT, aR, aT, aT]) (.cond none (.seq (.reg [aT]) .none) .none)) (.seq (.seq (.reg [aT]) (.block none (.loop 1 (.seq (.seq (.reg [aR, aR, aT, aT]) (.cond none .none .none)) (.seq (.block none (.seq (.reg [aR, aR, aT, aT, aR, aR, aT, aT, aT, aT]) (.cond none (.seq (.reg [aT]) .none) .none))) (.reg [aR, aT, aT])))))) (.seq (.reg [aT]) .none)))),
  []⟩
def b_laws_eqAccessS : List (Nat × Tree) := [(0, (.ins (.grp [] [.cp 64 (.c (.bool false))] .nil) (.ins (.grp [] [.cp 96 (.k 0)] (.grp [] [.len false 112 (.k 96)] (.grp [] [.cp 128 (.k 16)] (.grp [] [.len false 144 (.k 128)] (.grp [] [.bin .neq 160 (.k 112) (.k 144)] .nil))))) (.ite (.k 160) (.ins (.grp [] [.cp 64 (.c (.bool false))] .nil) (.ret [(.bool, [(.k 64)])])) (.ins (.grp [] [.cp 80 (.c (.int .i64 (0)))] .nil) (.jump 1 [0, 16, 80])))))),
  (1, (.ins (.grp [] [.cp 176 (.k 80)] (.grp [] [.cp 192 (.k 0)] (.grp [] [.len false 208 (.k 192)] (.grp [] [.bin .lss 224 (.k 176) (.k 208)] .nil)))) (.ite (.k 224) (.ins (.grp [] [.cp 272 (.k 0)] (.grp [] [.cp 288 (.k 80)] (.grp [] [.idx (some tPILI) [304, 305] 0 (.k 272) (.k 288)] (.grp [] [.cp 320 (.k 304), .cp 321 (.k 305)] (.grp [] [.cp 336 (.k 16)] (.grp [] [.cp 352 (.k 80)] (.grp [] [.idx (some tPILI) [368, 369] 0 (.k 336) (.k 352)] (.grp [] [.cp 384 (.k 368), .cp 385 (.k 369)] (.grp [] [.call 0 [(tPILI, [(.k 320), (.k 321)]), (tPILI, [(.k 384), (.k 385)])] [[400]]] (.grp [] [.not 416 (.k 400)] .nil)))))))))) (.ite (.k 416) (.ins (.grp [] [.cp 64 (.c (.bool false))] .nil) (.ret [(.bool, [(.k 64)])])) (.ins (.grp [] [.cp 240 (.k 80)] (.grp [] [.bin .add 256 (.k 240) (.c (.int .i64 (1)))] (.grp [] [.cp 80 (.k 256)] .nil))) (.jump 1 [0, 16, 80])))) (.ins (.grp [] [.cp 64 (.c (.bool true))] .nil) (.ret [(.bool, [(.k 64)])])))))]
noncomputable def c_laws_eqAccessS : List Lf.Fn := [n_laws_eqAccess]
noncomputable def f_laws_eqAccessS : (List (Int × (List Int))) → (List (Int × (List Int))) → Option (Bool) := tyd [tLPILI, tLPILI] [.bool] (fnD (DOf c_laws_eqAccessS) s_laws_eqAccessS a_laws_eqAccessS.L b_laws_eqAccessS)
noncomputable def n_laws_eqAccessS : Lf.Fn := ⟨s_laws_eqAccessS, [tLPILI, tLPILI], [.bool], f_laws_eqAccessS⟩
noncomputable def l1_laws_eqAccessS (v0 : (List (Int × (List Int)))) (v16 : (List (Int × (List Int)))) (v80 : Int) : Option (Bool) := (Jl (DOf c_laws_eqAccessS) (irBlk a_laws_eqAccessS.L b_laws_eqAccessS) 1 [⟨tLPILI, v0⟩, ⟨tLPILI, v16⟩, ⟨tI, v80⟩]).bind (readOuts [.bool])
theorem k_laws_eqAccessS : compFn Try.prog (sigsOf c_laws_eqAccessS) s_laws_eqAccessS a_laws_eqAccessS = some b_laws_eqAccessS := by kernel_rfl
theorem g_laws_eqAccessS : Lf.Good Try.prog n_laws_eqAccessS := good_of (by simp only [c_laws_eqAccessS, List.mem_singleton]; rintro _ rfl; exact g_laws_eqAccess) k_laws_eqAccessS (by kernel_rfl) ⟨Try.f27, by kernel_rfl, by kernel_rfl, by kernel_rfl⟩ [tLPILI, tLPILI] [.bool]
theorem f_laws_eqAccessS_eq (x0 : (List (Int × (List Int)))) (x1 : (List (Int × (List Int)))) : f_laws_eqAccessS x0 x1 =
    bif ((x0.length : Int) != (x1.length : Int)) then
      some false
    else
      l1_laws_eqAccessS x0 x1 (0 : Int) :=
  (show f_laws_eqAccessS x0 x1 = (Jl (DOf c_laws_eqAccessS) (irBlk a_laws_eqAccessS.L b_laws_eqAccessS) 0 [⟨tLPILI, x0⟩, ⟨tLPILI, x1⟩]).bind (readOuts [.bool]) by kernel_rfl).trans ((Jstep2 (DKOf_eq c_laws_eqAccessS)).trans (by kernel_rfl))
theorem l1_laws_eqAccessS_eq (v0 : (List (Int × (List Int)))) (v16 : (List (Int × (List Int)))) (v80 : Int) : l1_laws_eqAccessS v0 v16 v80 =
    bif (decide (v80 < (v0.length : Int))) then
      (at? v0 v80).bind fun z1 =>
      (at? v16 v80).bind fun z2 =>
      (f_laws_eqAccess z1 z2).bind fun z3 =>
      bif (!z3) then
        some false
      else
        l1_laws_eqAccessS v0 v16 (IntKind.wrap .i64 (v80 + (1 : Int)))
    else
      some true :=
  (show l1_laws_eqAccessS v0 v16 v80 = (Jl (DOf c_laws_eqAccessS) (irBlk a_laws_eqAccessS.L b_laws_eqAccessS) 1 [⟨tLPILI, v0⟩, ⟨tLPILI, v16⟩, ⟨tI, v80⟩]).bind (readOuts [.bool]) by kernel_rfl).trans ((Jstep2 (DKOf_eq c_laws_eqAccessS)).trans (by kernel_rfl))
/- loop.example/g01989/laws.FnExactIsPrefix -/
def s_laws_FnExactIsPrefix : Sig := ⟨8, [.v tLPILI, .v tLPILI], [(.bool, [none])]⟩
def a_laws_FnExactIsPrefix : FAnn := ⟨[⟨[(0, ⟨0, [], .va⟩), (15, ⟨0, [], .pl 1 false⟩), (16, ⟨0, [], .va⟩), (31, ⟨0, [], .pl 1 false⟩)], [0, 16]⟩],
  (.seq (.reg [aT]) (.seq (.reg [aT]) (.seq (.reg [aR, aR, aT, aT]) (.seq (.seq (.reg [aR, aT]) (.cond none (.seq (.reg [aT]) .none) .none)) (.seq (.reg [aR, aR, aT, aT]) (.seq (.seq (.reg [aR, aT]) (.cond none (.seq (.reg [aT]) .none) .none)) (.seq (.reg [aR, ⟨.take, 1, []⟩, aR, ⟨.take, 1, []⟩, ⟨.take, 2, []⟩, aT]) (.seq (.reg [aR, ⟨.take, 1, []⟩, aT]) (.seq (.reg [aR, ⟨.take, 1, []⟩, aT]) (.seq (.reg [aR, aR, ⟨.take, 3, []⟩, aT]) (.seq (.seq (.reg [aR, aR, aT]) (.cond none (.seq (.reg [aT]) .none) .none)) (.seq (.seq (.reg [aR, aR, ⟨.take, 1, []⟩, ⟨.take, 4, []⟩, aT]) (.cond none (.seq (.reg [aT]) .none) .none)) (.seq (.seq (.reg [aR, aR, ⟨.take, 1, []⟩, ⟨.take, 4, []⟩, aT]) (.cond none (.seq (.reg [aT]) .none) .none)) (.seq (.reg [aT]) .none)))))))))))))),
  []⟩
def b_laws_FnExactIsPrefix : List (Nat × Tree) := [(0, (.ins (.grp [] [.cp 64 (.c (.bool false))] .nil) (.ins (.grp [] [.cp 80 (.c (.int .i64 (1048576)))] .nil) (.ins (.grp [] [.cp 160 (.k 0)] (.grp [] [.cp 176 (.k 80)] (.grp [] [.call 0 [(tLPILI, [(.k 160)]), (tI, [(.k 176)])] [[192]]] (.grp [] [.cp 80 (.k 192)] .nil)))) (.ins (.grp [] [.cp 208 (.k 80)] (.grp [] [.bin .lss 224 (.k 208) (.c (.int .i64 (0)))] .nil)) (.ite (.k 224) (.ins (.grp [] [.cp 64 (.c (.bool true))] .nil) (.ret [(.bool, [(.k 64)])])) (.ins (.grp [] [.cp 240 (.k 16)] (.grp [] [.cp 256 (.k 80)] (.grp [] [.call 0 [(tLPILI, [(.k 240)]), (tI, [(.k 256)])] [[272]]] (.grp [] [.cp 80 (.k 272)] .nil)))) (.ins (.grp [] [.cp 288 (.k 80)] (.grp [] [.bin .lss 304 (.k 288) (.c (.int .i64 (0)))] .nil)) (.ite (.k 304) (.ins (.grp [] [.cp 64 (.c (.bool true))] .nil) (.ret [(.bool, [(.k 64)])])) (.ins (.grp [] [.cp 320 (.k 0)] (.grp [] [.call 1 [(tLPILI, [(.k 320)])] [[336]]] (.grp [] [.cp 352 (.k 16)] (.grp [] [.call 1 [(tLPILI, [(.k 352)])] [[368]]] (.grp [] [.call 2 [(tLPILI, [(.k 336)]), (tLPILI, [(.k 368)])] [[384]]] (.grp [] [.cp 96 (.k 384)] .nil)))))) (.ins (.grp [] [.cp 400 (.k 0)] (.grp [] [.call 1 [(tLPILI, [(.k 400)])] [[416]]] (.grp [] [.cp 112 (.k 416)] .nil))) (.ins (.grp [] [.cp 432 (.k 16)] (.grp [] [.call 1 [(tLPILI, [(.k 432)])] [[448]]] (.grp [] [.cp 128 (.k 448)] .nil))) (.ins (.grp [] [.cp 464 (.k 112)] (.grp [] [.cp 480 (.k 128)] (.grp [] [.call 3 [(tLPILI, [(.k 464)]), (tLPILI, [(.k 480)])] [[496]]] (.grp [] [.cp 144 (.k 496)] .nil)))) (.ins (.grp [] [.cp 512 (.k 144)] (.grp [] [.cp 528 (.k 96)] (.grp [] [.beq true 544 (.k 512) (.k 528)] .nil))) (.ite (.k 544) (.ins (.grp [] [.cp 64 (.c (.bool false))] .nil) (.ret [(.bool, [(.k 64)])])) (.ins (.grp [] [.cp 560 (.k 112)] (.grp [] [.cp 576 (.k 0)] (.grp [] [.call 1 [(tLPILI, [(.k 576)])] [[592]]] (.grp [] [.call 4 [(tLPILI, [(.k 560)]), (tLPILI, [(.k 592)])] [[608]]] (.grp [] [.not 624 (.k 608)] .nil))))) (.ite (.k 624) (.ins (.grp [] [.cp 64 (.c (.bool false))] .nil) (.ret [(.bool, [(.k 64)])])) (.ins (.grp [] [.cp 640 (.k 128)] (.grp [] [.cp 656 (.k 16)] (.grp [] [.call 1 [(tLPILI, [(.k 656)])] [[672]]] (.grp [] [.call 4 [(tLPILI, [(.k 640)]), (tLPILI, [(.k 672)])] [[688]]] (.grp [] [.not 704 (.k 688)] .nil))))) (.ite (.k 704) (.ins (.grp [] [.cp 64 (.c (.bool false))] .nil) (.ret [(.bool, [(.k 64)])])) (.ins (.grp [] [.cp 64 (.c (.bool true))] .nil) (.ret [(.bool, [(.k 64)])])))))))))))))))))))))]
noncomputable def c_laws_FnExactIsPrefix : List Lf.Fn := [n_laws_szAccessS, n_laws_toAccessS, n_spec_IsPrefix, n_impl_IsPrefix, n_laws_eqAccessS]
noncomputable def f_laws_FnExactIsPrefix : (List (Int × (List Int))) → (List (Int × (List Int))) → Option (Bool) := tyd [tLPILI, tLPILI] [.bool] (fnD (DOf c_laws_FnExactIsPrefix) s_laws_FnExactIsPrefix a_laws_FnExactIsPrefix.L b_laws_FnExactIsPrefix)
noncomputable def n_laws_FnExactIsPrefix : Lf.Fn := ⟨s_laws_FnExactIsPrefix, [tLPILI, tLPILI], [.bool], f_laws_FnExactIsPrefix⟩
theorem k_laws_FnExactIsPrefix : compFn Try.prog (sigsOf c_laws_FnExactIsPrefix) s_laws_FnExactIsPrefix a_laws_FnExactIsPrefix = some b_laws_FnExactIsPrefix := by kernel_rfl
theorem g_laws_FnExactIsPrefix : Lf.Good Try.prog n_laws_FnExactIsPrefix := good_of (by simp only [c_laws_FnExactIsPrefix, List.mem_cons, List.not_mem_nil, or_false]; rintro _ (rfl | rfl | rfl | rfl | rfl); exact g_laws_szAccessS; exact g_laws_toAccessS; exact g_spec_IsPrefix; exact g_impl_IsPrefix; exact g_laws_eqAccessS) k_laws_FnExactIsPrefix (by kernel_rfl) ⟨Try.f8, by kernel_rfl, by kernel_rfl, by kernel_rfl⟩ [tLPILI, tLPILI] [.bool]
theorem f_laws_FnExactIsPrefix_eq (x0 : (List (Int × (List Int)))) (x1 : (List (Int × (List Int)))) : f_laws_FnExactIsPrefix x0 x1 =
    (f_laws_szAccessS x0 (1048576 : Int)).bind fun z1 =>
    bif (decide (z1 < (0 : Int))) then
      some true
    else
      (f_laws_szAccessS x1 z1).bind fun z2 =>
      bif (decide (z2 < (0 : Int))) then
        some true
      else
        (f_laws_toAccessS x0).bind fun z3 =>
        (f_laws_toAccessS x1).bind fun z4 =>
        (f_spec_IsPrefix z3 z4).bind fun z5 =>
        (f_laws_toAccessS x0).bind fun z6 =>
        (f_laws_toAccessS x1).bind fun z7 =>
        (f_impl_IsPrefix z6 z7).bind fun z8 =>
        bif (!(z8 == z5)) then
          some false
        else
          (f_laws_toAccessS x0).bind fun z9 =>
          (f_laws_eqAccessS z6 z9).bind fun z10 =>
          bif (!z10) then
            some false
          else
            (f_laws_toAccessS x1).bind fun z11 =>
            (f_laws_eqAccessS z7 z11).bind fun z12 =>
            bif (!z12) then
              some false
            else
              some true :=
  (show f_laws_FnExactIsPrefix x0 x1 = (Jl (DOf c_laws_FnExactIsPrefix) (irBlk a_laws_FnExactIsPrefix.L b_laws_FnExactIsPrefix) 0 [⟨tLPILI, x0⟩, ⟨tLPILI, x1⟩]).bind (readOuts [.bool]) by kernel_rfl).trans ((Jstep2 (DKOf_eq c_laws_FnExactIsPrefix)).trans (by kernel_rfl))
end Go.Proofs.Ytgabgcogeedclaa
