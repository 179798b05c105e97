/- The functions that FnExactFindStored reaches, as functions of data, and their texts, part 1 of 1. -/
import Derived.Test.YtjffopklnampaaaLd
import Derived.KernelRfl
import Derived.Test.YtjffopklnampaaaProg
set_option linter.unusedVariables false
set_option linter.unusedSimpArgs false
namespace Go.Proofs.Ytjffopklnampaaa
open Go.Lf
def aT : Ann := ⟨.take, 0, []⟩
def aR : Ann := ⟨.ref, 0, []⟩
def tI : Ty := .int .i64
def tLI : Ty := .slice tI
def tPILI : Ty := .pair tI tLI
def tLPILI : Ty := .slice tPILI
def tPLPILII : Ty := .pair tLPILI tI
def tPPILIPLPILII : Ty := .pair tPILI tPLPILII
def tL8780a : Ty := .slice tPPILIPLPILII
def tP4d7df : Ty := .pair tL8780a tI
def m42d08 : M := .sl .own .sc
def mca4df : M := .pair .sc m42d08
def mac2c2 : M := .sl .own mca4df
def m52258 : M := .pair mac2c2 .sc
def m4887a : M := .pair mca4df m52258
/- loop.example/g01989/laws.szIntS -/
def s_laws_szIntS : Sig := ⟨77, [.v tLI, .v tI], [(tI, [none])]⟩
def a_laws_szIntS : FAnn := ⟨[⟨[(0, ⟨0, [], .va⟩), (15, ⟨0, [], .pl 1 false⟩), (16, ⟨0, [], .va⟩), (31, ⟨0, [], .pl 1 false⟩)], [0, 16]⟩],
  (.seq (.reg [aT]) (.seq (.reg [aR, aR, aT, aT, aT]) (.seq (.seq (.reg [aR, aT]) (.cond none (.seq (.reg [aT]) .none) .none)) (.seq (.reg [aR, aT]) .none)))),
  []⟩
def b_laws_szIntS : List (Nat × Tree) := [(0, (.ins (.grp [] [.cp 64 (.c (.int .i64 (0)))] .nil) (.ins (.grp [] [.cp 80 (.k 16)] (.grp [] [.cp 96 (.k 0)] (.grp [] [.len false 112 (.k 96)] (.grp [] [.bin .sub 128 (.k 80) (.k 112)] (.grp [] [.cp 16 (.k 128)] .nil))))) (.ins (.grp [] [.cp 144 (.k 16)] (.grp [] [.bin .lss 160 (.k 144) (.c (.int .i64 (0)))] .nil)) (.ite (.k 160) (.ins (.grp [] [.cp 64 (.c (.int .i64 (-1)))] .nil) (.ret [(tI, [(.k 64)])])) (.ins (.grp [] [.cp 176 (.k 16)] (.grp [] [.cp 64 (.k 176)] .nil)) (.ret [(tI, [(.k 64)])])))))))]
noncomputable def c_laws_szIntS : List Lf.Fn := []
noncomputable def f_laws_szIntS : (List Int) → Int → Option (Int) := tyd [tLI, tI] [tI] (fnD (DOf c_laws_szIntS) s_laws_szIntS a_laws_szIntS.L b_laws_szIntS)
noncomputable def n_laws_szIntS : Lf.Fn := ⟨s_laws_szIntS, [tLI, tI], [tI], f_laws_szIntS⟩
theorem k_laws_szIntS : compFn Try.prog (sigsOf c_laws_szIntS) s_laws_szIntS a_laws_szIntS = some b_laws_szIntS := by kernel_rfl
theorem g_laws_szIntS : Lf.Good Try.prog n_laws_szIntS := good_of (by intro _ h; simp [c_laws_szIntS] at h) k_laws_szIntS (by kernel_rfl) ⟨Try.f77, by kernel_rfl, by kernel_rfl, by kernel_rfl⟩ [tLI, tI] [tI]
theorem f_laws_szIntS_eq (x0 : (List Int)) (x1 : Int) : f_laws_szIntS x0 x1 =
    bif (decide ((IntKind.wrap .i64 (x1 - (x0.length : Int))) < (0 : Int))) then
      some (-1 : Int)
    else
      some (IntKind.wrap .i64 (x1 - (x0.length : Int))) :=
  (show f_laws_szIntS x0 x1 = (Jl (DOf c_laws_szIntS) (irBlk a_laws_szIntS.L b_laws_szIntS) 0 [⟨tLI, x0⟩, ⟨tI, x1⟩]).bind (readOuts [tI]) by kernel_rfl).trans ((Jstep2 (DKOf_eq c_laws_szIntS)).trans (by kernel_rfl))
/- loop.example/g01989/laws.szAccess -/
def s_laws_szAccess : Sig := ⟨16, [.v tPILI, .v tI], [(tI, [none])]⟩
def a_laws_szAccess : FAnn := ⟨[⟨[(0, ⟨0, [], .va⟩), (1, ⟨0, [], .va⟩), (15, ⟨0, [], .pl 2 true⟩), (16, ⟨0, [], .va⟩), (31, ⟨0, [], .pl 1 false⟩)], [0, 1, 16]⟩],
  (.seq (.reg [aT, aT]) (.seq (.reg [aT, aT, aR, aT, aT]) (.seq (.seq (.reg [aR, aT]) (.cond none (.seq (.reg [aT]) .none) .none)) (.seq (.reg [aR, aT]) .none)))),
  []⟩
def b_laws_szAccess : List (Nat × Tree) := [(0, (.ins (.grp [] [.cp 32 (.k 0), .cp 33 (.k 1)] (.grp [] [.cp 64 (.c (.int .i64 (0)))] .nil)) (.ins (.grp [] [.cp 96 (.k 33)] (.grp [] [.cp 112 (.k 16)] (.grp [] [.call 0 [(tLI, [(.k 96)]), (tI, [(.k 112)])] [[128]]] (.grp [] [.cp 16 (.k 128)] .nil)))) (.ins (.grp [] [.cp 144 (.k 16)] (.grp [] [.bin .lss 160 (.k 144) (.c (.int .i64 (0)))] .nil)) (.ite (.k 160) (.ins (.grp [] [.cp 64 (.c (.int .i64 (-1)))] .nil) (.ret [(tI, [(.k 64)])])) (.ins (.grp [] [.cp 176 (.k 16)] (.grp [] [.cp 64 (.k 176)] .nil)) (.ret [(tI, [(.k 64)])])))))))]
noncomputable def c_laws_szAccess : List Lf.Fn := [n_laws_szIntS]
noncomputable def f_laws_szAccess : (Int × (List Int)) → Int → Option (Int) := tyd [tPILI, tI] [tI] (fnD (DOf c_laws_szAccess) s_laws_szAccess a_laws_szAccess.L b_laws_szAccess)
noncomputable def n_laws_szAccess : Lf.Fn := ⟨s_laws_szAccess, [tPILI, tI], [tI], f_laws_szAccess⟩
theorem k_laws_szAccess : compFn Try.prog (sigsOf c_laws_szAccess) s_laws_szAccess a_laws_szAccess = some b_laws_szAccess := by kernel_rfl
theorem g_laws_szAccess : Lf.Good Try.prog n_laws_szAccess := good_of (by simp only [c_laws_szAccess, List.mem_singleton]; rintro _ rfl; exact g_laws_szIntS) k_laws_szAccess (by kernel_rfl) ⟨Try.f16, by kernel_rfl, by kernel_rfl, by kernel_rfl⟩ [tPILI, tI] [tI]
theorem f_laws_szAccess_eq (x0 : (Int × (List Int))) (x1 : Int) : f_laws_szAccess x0 x1 =
    (f_laws_szIntS x0.2 x1).bind fun z1 =>
    bif (decide (z1 < (0 : Int))) then
      some (-1 : Int)
    else
      some z1 :=
  (show f_laws_szAccess x0 x1 = (Jl (DOf c_laws_szAccess) (irBlk a_laws_szAccess.L b_laws_szAccess) 0 [⟨tI, x0.1⟩, ⟨tLI, x0.2⟩, ⟨tI, x1⟩]).bind (readOuts [tI]) by kernel_rfl).trans ((Jstep2 (DKOf_eq c_laws_szAccess)).trans (by kernel_rfl))
/- loop.example/g01989/laws.szFact -/
def s_laws_szFact : Sig := ⟨95, [.v tPILI, .v tI], [(tI, [none])]⟩
def a_laws_szFact : FAnn := ⟨[⟨[(0, ⟨0, [], .va⟩), (1, ⟨0, [], .va⟩), (15, ⟨0, [], .pl 2 true⟩), (16, ⟨0, [], .va⟩), (31, ⟨0, [], .pl 1 false⟩)], [0, 1, 16]⟩],
  (.seq (.reg [aT, aT]) (.seq (.reg [aT, aT, aR, aT, aT]) (.seq (.seq (.reg [aR, aT]) (.cond none (.seq (.reg [aT]) .none) .none)) (.seq (.reg [aR, aT]) .none)))),
  []⟩
def b_laws_szFact : List (Nat × Tree) := [(0, (.ins (.grp [] [.cp 32 (.k 0), .cp 33 (.k 1)] (.grp [] [.cp 64 (.c (.int .i64 (0)))] .nil)) (.ins (.grp [] [.cp 96 (.k 33)] (.grp [] [.cp 112 (.k 16)] (.grp [] [.call 0 [(tLI, [(.k 96)]), (tI, [(.k 112)])] [[128]]] (.grp [] [.cp 16 (.k 128)] .nil)))) (.ins (.grp [] [.cp 144 (.k 16)] (.grp [] [.bin .lss 160 (.k 144) (.c (.int .i64 (0)))] .nil)) (.ite (.k 160) (.ins (.grp [] [.cp 64 (.c (.int .i64 (-1)))] .nil) (.ret [(tI, [(.k 64)])])) (.ins (.grp [] [.cp 176 (.k 16)] (.grp [] [.cp 64 (.k 176)] .nil)) (.ret [(tI, [(.k 64)])])))))))]
noncomputable def c_laws_szFact : List Lf.Fn := [n_laws_szIntS]
noncomputable def f_laws_szFact : (Int × (List Int)) → Int → Option (Int) := tyd [tPILI, tI] [tI] (fnD (DOf c_laws_szFact) s_laws_szFact a_laws_szFact.L b_laws_szFact)
noncomputable def n_laws_szFact : Lf.Fn := ⟨s_laws_szFact, [tPILI, tI], [tI], f_laws_szFact⟩
theorem k_laws_szFact : compFn Try.prog (sigsOf c_laws_szFact) s_laws_szFact a_laws_szFact = some b_laws_szFact := by kernel_rfl
theorem g_laws_szFact : Lf.Good Try.prog n_laws_szFact := good_of (by simp only [c_laws_szFact, List.mem_singleton]; rintro _ rfl; exact g_laws_szIntS) k_laws_szFact (by kernel_rfl) ⟨Try.f95, by kernel_rfl, by kernel_rfl, by kernel_rfl⟩ [tPILI, tI] [tI]
theorem f_laws_szFact_eq (x0 : (Int × (List Int))) (x1 : Int) : f_laws_szFact x0 x1 =
    (f_laws_szIntS x0.2 x1).bind fun z1 =>
    bif (decide (z1 < (0 : Int))) then
      some (-1 : Int)
    else
      some z1 :=
  (show f_laws_szFact x0 x1 = (Jl (DOf c_laws_szFact) (irBlk a_laws_szFact.L b_laws_szFact) 0 [⟨tI, x0.1⟩, ⟨tLI, x0.2⟩, ⟨tI, x1⟩]).bind (readOuts [tI]) by kernel_rfl).trans ((Jstep2 (DKOf_eq c_laws_szFact)).trans (by kernel_rfl))
/- loop.example/g01989/laws.szFactS -/
def s_laws_szFactS : Sig := ⟨34, [.v tLPILI, .v tI], [(tI, [none])]⟩
def a_laws_szFactS : FAnn := ⟨[⟨[(0, ⟨0, [], .va⟩), (15, ⟨0, [], .pl 1 false⟩), (16, ⟨0, [], .va⟩), (31, ⟨0, [], .pl 1 false⟩)], [0, 16]⟩,
    ⟨[(0, ⟨0, [], .va⟩), (15, ⟨0, [], .pl 1 false⟩), (16, ⟨0, [], .va⟩), (31, ⟨0, [], .pl 1 false⟩), (80, ⟨0, [], .va⟩), (95, ⟨0, [], .pl 1 false⟩)], [0, 16, 80]⟩],
  (.seq (.reg [aT]) (.seq (.reg [aR, aR, aT, aT, aT]) (.seq (.seq (.reg [aR, aT]) (.cond none (.seq (.reg [aT]) .none) .none)) (.seq (.seq (.reg [aT]) (.block none (.loop 1 (.seq (.seq (.reg [aR, aR, aT, aT]) (.cond none .none .none)) (.seq (.block none (.seq (.reg [aR, aR, aT, aT, aR, aT, aT]) (.seq (.reg [aR, aT]) (.cond none (.seq (.reg [aT]) .none) .none)))) (.reg [aR, aT, aT])))))) (.seq (.reg [aR, aT]) .none))))),
  []⟩
def b_laws_szFactS : List (Nat × Tree) := [(0, (.ins (.grp [] [.cp 64 (.c (.int .i64 (0)))] .nil) (.ins (.grp [] [.cp 96 (.k 16)] (.grp [] [.cp 112 (.k 0)] (.grp [] [.len false 128 (.k 112)] (.grp [] [.bin .sub 144 (.k 96) (.k 128)] (.grp [] [.cp 16 (.k 144)] .nil))))) (.ins (.grp [] [.cp 160 (.k 16)] (.grp [] [.bin .lss 176 (.k 160) (.c (.int .i64 (0)))] .nil)) (.ite (.k 176) (.ins (.grp [] [.cp 64 (.c (.int .i64 (-1)))] .nil) (.ret [(tI, [(.k 64)])])) (.ins (.grp [] [.cp 80 (.c (.int .i64 (0)))] .nil) (.jump 1 [0, 16, 80]))))))),
  (1, (.ins (.grp [] [.cp 192 (.k 80)] (.grp [] [.cp 208 (.k 0)] (.grp [] [.len false 224 (.k 208)] (.grp [] [.bin .lss 240 (.k 192) (.k 224)] .nil)))) (.ite (.k 240) (.ins (.grp [] [.cp 288 (.k 0)] (.grp [] [.cp 304 (.k 80)] (.grp [] [.idx (some tPILI) [320, 321] 0 (.k 288) (.k 304)] (.grp [] [.cp 336 (.k 320), .cp 337 (.k 321)] (.grp [] [.cp 352 (.k 16)] (.grp [] [.call 0 [(tPILI, [(.k 336), (.k 337)]), (tI, [(.k 352)])] [[368]]] (.grp [] [.cp 16 (.k 368)] .nil))))))) (.ins (.grp [] [.cp 384 (.k 16)] (.grp [] [.bin .lss 400 (.k 384) (.c (.int .i64 (0)))] .nil)) (.ite (.k 400) (.ins (.grp [] [.cp 64 (.c (.int .i64 (-1)))] .nil) (.ret [(tI, [(.k 64)])])) (.ins (.grp [] [.cp 256 (.k 80)] (.grp [] [.bin .add 272 (.k 256) (.c (.int .i64 (1)))] (.grp [] [.cp 80 (.k 272)] .nil))) (.jump 1 [0, 16, 80]))))) (.ins (.grp [] [.cp 416 (.k 16)] (.grp [] [.cp 64 (.k 416)] .nil)) (.ret [(tI, [(.k 64)])])))))]
noncomputable def c_laws_szFactS : List Lf.Fn := [n_laws_szFact]
noncomputable def f_laws_szFactS : (List (Int × (List Int))) → Int → Option (Int) := tyd [tLPILI, tI] [tI] (fnD (DOf c_laws_szFactS) s_laws_szFactS a_laws_szFactS.L b_laws_szFactS)
noncomputable def n_laws_szFactS : Lf.Fn := ⟨s_laws_szFactS, [tLPILI, tI], [tI], f_laws_szFactS⟩
noncomputable def l1_laws_szFactS (v0 : (List (Int × (List Int)))) (v16 : Int) (v80 : Int) : Option (Int) := (Jl (DOf c_laws_szFactS) (irBlk a_laws_szFactS.L b_laws_szFactS) 1 [⟨tLPILI, v0⟩, ⟨tI, v16⟩, ⟨tI, v80⟩]).bind (readOuts [tI])
theorem k_laws_szFactS : compFn Try.prog (sigsOf c_laws_szFactS) s_laws_szFactS a_laws_szFactS = some b_laws_szFactS := by kernel_rfl
theorem g_laws_szFactS : Lf.Good Try.prog n_laws_szFactS := good_of (by simp only [c_laws_szFactS, List.mem_singleton]; rintro _ rfl; exact g_laws_szFact) k_laws_szFactS (by kernel_rfl) ⟨Try.f34, by kernel_rfl, by kernel_rfl, by kernel_rfl⟩ [tLPILI, tI] [tI]
theorem f_laws_szFactS_eq (x0 : (List (Int × (List Int)))) (x1 : Int) : f_laws_szFactS x0 x1 =
    bif (decide ((IntKind.wrap .i64 (x1 - (x0.length : Int))) < (0 : Int))) then
      some (-1 : Int)
    else
      l1_laws_szFactS x0 (IntKind.wrap .i64 (x1 - (x0.length : Int))) (0 : Int) :=
  (show f_laws_szFactS x0 x1 = (Jl (DOf c_laws_szFactS) (irBlk a_laws_szFactS.L b_laws_szFactS) 0 [⟨tLPILI, x0⟩, ⟨tI, x1⟩]).bind (readOuts [tI]) by kernel_rfl).trans ((Jstep2 (DKOf_eq c_laws_szFactS)).trans (by kernel_rfl))
theorem l1_laws_szFactS_eq (v0 : (List (Int × (List Int)))) (v16 : Int) (v80 : Int) : l1_laws_szFactS v0 v16 v80 =
    bif (decide (v80 < (v0.length : Int))) then
      (at? v0 v80).bind fun z1 =>
      (f_laws_szFact z1 v16).bind fun z2 =>
      bif (decide (z2 < (0 : Int))) then
        some (-1 : Int)
      else
        l1_laws_szFactS v0 z2 (IntKind.wrap .i64 (v80 + (1 : Int)))
    else
      some v16 :=
  (show l1_laws_szFactS v0 v16 v80 = (Jl (DOf c_laws_szFactS) (irBlk a_laws_szFactS.L b_laws_szFactS) 1 [⟨tLPILI, v0⟩, ⟨tI, v16⟩, ⟨tI, v80⟩]).bind (readOuts [tI]) by kernel_rfl).trans ((Jstep2 (DKOf_eq c_laws_szFactS)).trans (by kernel_rfl))
/- loop.example/g01989/laws.szStored -/
def s_laws_szStored : Sig := ⟨146, [.v tPPILIPLPILII, .v tI], [(tI, [none])]⟩
def a_laws_szStored : FAnn := ⟨[⟨[(0, ⟨0, [], .va⟩), (1, ⟨0, [], .va⟩), (2, ⟨0, [], .va⟩), (3, ⟨0, [], .va⟩), (15, ⟨0, [], .pl 4 true⟩), (16, ⟨0, [], .va⟩), (31, ⟨0, [], .pl 1 false⟩)], [0, 1, 2, 3, 16]⟩],
  (.seq (.reg [aT, aT]) (.seq (.reg [aT, aT, aR, aT, aT]) (.seq (.seq (.reg [aR, aT]) (.cond none (.seq (.reg [aT]) .none) .none)) (.seq (.reg [aT, aT, aR, ⟨.take, 1, []⟩, aT]) (.seq (.seq (.reg [aR, aT]) (.cond none (.seq (.reg [aT]) .none) .none)) (.seq (.reg [aR, aT]) .none)))))),
  []⟩
def b_laws_szStored : List (Nat × Tree) := [(0, (.ins (.grp [] [.cp 32 (.k 0), .cp 33 (.k 1), .cp 34 (.k 2), .cp 35 (.k 3)] (.grp [] [.cp 64 (.c (.int .i64 (0)))] .nil)) (.ins (.grp [] [.cp 96 (.k 32), .cp 97 (.k 33)] (.grp [] [.cp 112 (.k 16)] (.grp [] [.call 0 [(tPILI, [(.k 96), (.k 97)]), (tI, [(.k 112)])] [[128]]] (.grp [] [.cp 16 (.k 128)] .nil)))) (.ins (.grp [] [.cp 144 (.k 16)] (.grp [] [.bin .lss 160 (.k 144) (.c (.int .i64 (0)))] .nil)) (.ite (.k 160) (.ins (.grp [] [.cp 64 (.c (.int .i64 (-1)))] .nil) (.ret [(tI, [(.k 64)])])) (.ins (.grp [] [.cp 192 (.k 34)] (.grp [] [.cp 208 (.k 16)] (.grp [] [.call 1 [(tLPILI, [(.k 192)]), (tI, [(.k 208)])] [[224]]] (.grp [] [.cp 16 (.k 224)] .nil)))) (.ins (.grp [] [.cp 240 (.k 16)] (.grp [] [.bin .lss 256 (.k 240) (.c (.int .i64 (0)))] .nil)) (.ite (.k 256) (.ins (.grp [] [.cp 64 (.c (.int .i64 (-1)))] .nil) (.ret [(tI, [(.k 64)])])) (.ins (.grp [] [.cp 272 (.k 16)] (.grp [] [.cp 64 (.k 272)] .nil)) (.ret [(tI, [(.k 64)])]))))))))))]
noncomputable def c_laws_szStored : List Lf.Fn := [n_laws_szAccess, n_laws_szFactS]
noncomputable def f_laws_szStored : ((Int × (List Int)) × ((List (Int × (List Int))) × Int)) → Int → Option (Int) := tyd [tPPILIPLPILII, tI] [tI] (fnD (DOf c_laws_szStored) s_laws_szStored a_laws_szStored.L b_laws_szStored)
noncomputable def n_laws_szStored : Lf.Fn := ⟨s_laws_szStored, [tPPILIPLPILII, tI], [tI], f_laws_szStored⟩
theorem k_laws_szStored : compFn Try.prog (sigsOf c_laws_szStored) s_laws_szStored a_laws_szStored = some b_laws_szStored := by kernel_rfl
theorem g_laws_szStored : Lf.Good Try.prog n_laws_szStored := good_of (by simp only [c_laws_szStored, List.mem_cons, List.not_mem_nil, or_false]; rintro _ (rfl | rfl); exact g_laws_szAccess; exact g_laws_szFactS) k_laws_szStored (by kernel_rfl) ⟨Try.f146, by kernel_rfl, by kernel_rfl, by kernel_rfl⟩ [tPPILIPLPILII, tI] [tI]
theorem f_laws_szStored_eq (x0 : ((Int × (List Int)) × ((List (Int × (List Int))) × Int))) (x1 : Int) : f_laws_szStored x0 x1 =
    (f_laws_szAccess x0.1 x1).bind fun z1 =>
    bif (decide (z1 < (0 : Int))) then
      some (-1 : Int)
    else
      (f_laws_szFactS x0.2.1 z1).bind fun z2 =>
      bif (decide (z2 < (0 : Int))) then
        some (-1 : Int)
      else
        some z2 :=
  (show f_laws_szStored x0 x1 = (Jl (DOf c_laws_szStored) (irBlk a_laws_szStored.L b_laws_szStored) 0 [⟨tI, x0.1.1⟩, ⟨tLI, x0.1.2⟩, ⟨tLPILI, x0.2.1⟩, ⟨tI, x0.2.2⟩, ⟨tI, x1⟩]).bind (readOuts [tI]) by kernel_rfl).trans ((Jstep2 (DKOf_eq c_laws_szStored)).trans (by kernel_rfl))
/- loop.example/g01989/laws.szStoredS -/
def s_laws_szStoredS : Sig := ⟨76, [.v tL8780a, .v tI], [(tI, [none])]⟩
def a_laws_szStoredS : FAnn := ⟨[⟨[(0, ⟨0, [], .va⟩), (15, ⟨0, [], .pl 1 false⟩), (16, ⟨0, [], .va⟩), (31, ⟨0, [], .pl 1 false⟩)], [0, 16]⟩,
    ⟨[(0, ⟨0, [], .va⟩), (15, ⟨0, [], .pl 1 false⟩), (16, ⟨0, [], .va⟩), (31, ⟨0, [], .pl 1 false⟩), (80, ⟨0, [], .va⟩), (95, ⟨0, [], .pl 1 false⟩)], [0, 16, 80]⟩],
  (.seq (.reg [aT]) (.seq (.reg [aR, aR, aT, aT, aT]) (.seq (.seq (.reg [aR, aT]) (.cond none (.seq (.reg [aT]) .none) .none)) (.seq (.seq (.reg [aT]) (.block none (.loop 1 (.seq (.seq (.reg [aR, aR, aT, aT]) (.cond none .none .none)) (.seq (.block none (.seq (.reg [aR, aR, aT, aT, aR, aT, aT]) (.seq (.reg [aR, aT]) (.cond none (.seq (.reg [aT]) .none) .none)))) (.reg [aR, aT, aT])))))) (.seq (.reg [aR, aT]) .none))))),
  []⟩
def b_laws_szStoredS : List (Nat × Tree) := [(0, (.ins (.grp [] [.cp 64 (.c (.int .i64 (0)))] .nil) (.ins (.grp [] [.cp 96 (.k 16)] (.grp [] [.cp 112 (.k 0)] (.grp [] [.len false 128 (.k 112)] (.grp [] [.bin .sub 144 (.k 96) (.k 128)] (.grp [] [.cp 16 (.k 144)] .nil))))) (.ins (.grp [] [.cp 160 (.k 16)] (.grp [] [.bin .lss 176 (.k 160) (.c (.int .i64 (0)))] .nil)) (.ite (.k 176) (.ins (.grp [] [.cp 64 (.c (.int .i64 (-1)))] .nil) (.ret [(tI, [(.k 64)])])) (.ins (.grp [] [.cp 80 (.c (.int .i64 (0)))] .nil) (.jump 1 [0, 16, 80]))))))),
  (1, (.ins (.grp [] [.cp 192 (.k 80)] (.grp [] [.cp 208 (.k 0)] (.grp [] [.len false 224 (.k 208)] (.grp [] [.bin .lss 240 (.k 192) (.k 224)] .nil)))) (.ite (.k 240) (.ins (.grp [] [.cp 288 (.k 0)] (.grp [] [.cp 304 (.k 80)] (.grp [] [.idx (some tPPILIPLPILII) [320, 321, 322, 323] 0 (.k 288) (.k 304)] (.grp [] [.cp 336 (.k 320), .cp 337 (.k 321), .cp 338 (.k 322), .cp 339 (.k 323)] (.grp [] [.cp 352 (.k 16)] (.grp [] [.call 0 [(tPPILIPLPILII, [(.k 336), (.k 337), (.k 338), (.k 339)]), (tI, [(.k 352)])] [[368]]] (.grp [] [.cp 16 (.k 368)] .nil))))))) (.ins (.grp [] [.cp 384 (.k 16)] (.grp [] [.bin .lss 400 (.k 384) (.c (.int .i64 (0)))] .nil)) (.ite (.k 400) (.ins (.grp [] [.cp 64 (.c (.int .i64 (-1)))] .nil) (.ret [(tI, [(.k 64)])])) (.ins (.grp [] [.cp 256 (.k 80)] (.grp [] [.bin .add 272 (.k 256) (.c (.int .i64 (1)))] (.grp [] [.cp 80 (.k 272)] .nil))) (.jump 1 [0, 16, 80]))))) (.ins (.grp [] [.cp 416 (.k 16)] (.grp [] [.cp 64 (.k 416)] .nil)) (.ret [(tI, [(.k 64)])])))))]
noncomputable def c_laws_szStoredS : List Lf.Fn := [n_laws_szStored]
noncomputable def f_laws_szStoredS : (List ((Int × (List Int)) × ((List (Int × (List Int))) × Int))) → Int → Option (Int) := tyd [tL8780a, tI] [tI] (fnD (DOf c_laws_szStoredS) s_laws_szStoredS a_laws_szStoredS.L b_laws_szStoredS)
noncomputable def n_laws_szStoredS : Lf.Fn := ⟨s_laws_szStoredS, [tL8780a, tI], [tI], f_laws_szStoredS⟩
noncomputable def l1_laws_szStoredS (v0 : (List ((Int × (List Int)) × ((List (Int × (List Int))) × Int)))) (v16 : Int) (v80 : Int) : Option (Int) := (Jl (DOf c_laws_szStoredS) (irBlk a_laws_szStoredS.L b_laws_szStoredS) 1 [⟨tL8780a, v0⟩, ⟨tI, v16⟩, ⟨tI, v80⟩]).bind (readOuts [tI])
theorem k_laws_szStoredS : compFn Try.prog (sigsOf c_laws_szStoredS) s_laws_szStoredS a_laws_szStoredS = some b_laws_szStoredS := by kernel_rfl
theorem g_laws_szStoredS : Lf.Good Try.prog n_laws_szStoredS := good_of (by simp only [c_laws_szStoredS, List.mem_singleton]; rintro _ rfl; exact g_laws_szStored) k_laws_szStoredS (by kernel_rfl) ⟨Try.f76, by kernel_rfl, by kernel_rfl, by kernel_rfl⟩ [tL8780a, tI] [tI]
theorem f_laws_szStoredS_eq (x0 : (List ((Int × (List Int)) × ((List (Int × (List Int))) × Int)))) (x1 : Int) : f_laws_szStoredS x0 x1 =
    bif (decide ((IntKind.wrap .i64 (x1 - (x0.length : Int))) < (0 : Int))) then
      some (-1 : Int)
    else
      l1_laws_szStoredS x0 (IntKind.wrap .i64 (x1 - (x0.length : Int))) (0 : Int) :=
  (show f_laws_szStoredS x0 x1 = (Jl (DOf c_laws_szStoredS) (irBlk a_laws_szStoredS.L b_laws_szStoredS) 0 [⟨tL8780a, x0⟩, ⟨tI, x1⟩]).bind (readOuts [tI]) by kernel_rfl).trans ((Jstep2 (DKOf_eq c_laws_szStoredS)).trans (by kernel_rfl))
theorem l1_laws_szStoredS_eq (v0 : (List ((Int × (List Int)) × ((List (Int × (List Int))) × Int)))) (v16 : Int) (v80 : Int) : l1_laws_szStoredS v0 v16 v80 =
    bif (decide (v80 < (v0.length : Int))) then
      (at? v0 v80).bind fun z1 =>
      (f_laws_szStored z1 v16).bind fun z2 =>
      bif (decide (z2 < (0 : Int))) then
        some (-1 : Int)
      else
        l1_laws_szStoredS v0 z2 (IntKind.wrap .i64 (v80 + (1 : Int)))
    else
      some v16 :=
  (show l1_laws_szStoredS v0 v16 v80 = (Jl (DOf c_laws_szStoredS) (irBlk a_laws_szStoredS.L b_laws_szStoredS) 1 [⟨tL8780a, v0⟩, ⟨tI, v16⟩, ⟨tI, v80⟩]).bind (readOuts [tI]) by kernel_rfl).trans ((Jstep2 (DKOf_eq c_laws_szStoredS)).trans (by kernel_rfl))
/- loop.example/g01989/laws.szCache -/
def s_laws_szCache : Sig := ⟨15, [.v tP4d7df, .v tI], [(tI, [none])]⟩
def a_laws_szCache : FAnn := ⟨[⟨[(0, ⟨0, [], .va⟩), (1, ⟨0, [], .va⟩), (15, ⟨0, [], .pl 2 true⟩), (16, ⟨0, [], .va⟩), (31, ⟨0, [], .pl 1 false⟩)], [0, 1, 16]⟩],
  (.seq (.reg [aT, aT]) (.seq (.reg [aT, aT, aR, aT, aT]) (.seq (.seq (.reg [aR, aT]) (.cond none (.seq (.reg [aT]) .none) .none)) (.seq (.reg [aR, aT]) .none)))),
  []⟩
def b_laws_szCache : List (Nat × Tree) := [(0, (.ins (.grp [] [.cp 32 (.k 0), .cp 33 (.k 1)] (.grp [] [.cp 64 (.c (.int .i64 (0)))] .nil)) (.ins (.grp [] [.cp 96 (.k 32)] (.grp [] [.cp 112 (.k 16)] (.grp [] [.call 0 [(tL8780a, [(.k 96)]), (tI, [(.k 112)])] [[128]]] (.grp [] [.cp 16 (.k 128)] .nil)))) (.ins (.grp [] [.cp 144 (.k 16)] (.grp [] [.bin .lss 160 (.k 144) (.c (.int .i64 (0)))] .nil)) (.ite (.k 160) (.ins (.grp [] [.cp 64 (.c (.int .i64 (-1)))] .nil) (.ret [(tI, [(.k 64)])])) (.ins (.grp [] [.cp 176 (.k 16)] (.grp [] [.cp 64 (.k 176)] .nil)) (.ret [(tI, [(.k 64)])])))))))]
noncomputable def c_laws_szCache : List Lf.Fn := [n_laws_szStoredS]
noncomputable def f_laws_szCache : ((List ((Int × (List Int)) × ((List (Int × (List Int))) × Int))) × Int) → Int → Option (Int) := tyd [tP4d7df, tI] [tI] (fnD (DOf c_laws_szCache) s_laws_szCache a_laws_szCache.L b_laws_szCache)
noncomputable def n_laws_szCache : Lf.Fn := ⟨s_laws_szCache, [tP4d7df, tI], [tI], f_laws_szCache⟩
theorem k_laws_szCache : compFn Try.prog (sigsOf c_laws_szCache) s_laws_szCache a_laws_szCache = some b_laws_szCache := by kernel_rfl
theorem g_laws_szCache : Lf.Good Try.prog n_laws_szCache := good_of (by simp only [c_laws_szCache, List.mem_singleton]; rintro _ rfl; exact g_laws_szStoredS) k_laws_szCache (by kernel_rfl) ⟨Try.f15, by kernel_rfl, by kernel_rfl, by kernel_rfl⟩ [tP4d7df, tI] [tI]
theorem f_laws_szCache_eq (x0 : ((List ((Int × (List Int)) × ((List (Int × (List Int))) × Int))) × Int)) (x1 : Int) : f_laws_szCache x0 x1 =
    (f_laws_szStoredS x0.1 x1).bind fun z1 =>
    bif (decide (z1 < (0 : Int))) then
      some (-1 : Int)
    else
      some z1 :=
  (show f_laws_szCache x0 x1 = (Jl (DOf c_laws_szCache) (irBlk a_laws_szCache.L b_laws_szCache) 0 [⟨tL8780a, x0.1⟩, ⟨tI, x0.2⟩, ⟨tI, x1⟩]).bind (readOuts [tI]) by kernel_rfl).trans ((Jstep2 (DKOf_eq c_laws_szCache)).trans (by kernel_rfl))
/- loop.example/g01989/laws.toIntS -/
def s_laws_toIntS : Sig := ⟨72, [.v tLI], [(tLI, [some .sc])]⟩
def a_laws_toIntS : FAnn := ⟨[⟨[(0, ⟨0, [], .va⟩), (15, ⟨0, [], .pl 1 false⟩)], [0]⟩,
    ⟨[(0, ⟨0, [], .va⟩), (15, ⟨0, [], .pl 1 false⟩), (48, ⟨0, [], .ro .sc none⟩), (63, ⟨0, [], .pl 1 false⟩), (64, ⟨0, [], .va⟩), (79, ⟨0, [], .pl 1 false⟩)], [0, 48, 64]⟩],
  (.seq (.reg [aT]) (.seq (.reg [aR, aT, aT, aT]) (.seq (.seq (.reg [aT]) (.block none (.loop 1 (.seq (.seq (.reg [aR, aR, aT, aT]) (.cond none .none .none)) (.seq (.block none (.reg [aR, aR, aR, aR, aT, aT, aT, aT])) (.reg [aR, aT, aT])))))) (.seq (.reg [aR, aT]) .none)))),
  []⟩
def b_laws_toIntS : List (Nat × Tree) := [(0, (.ins (.grp [] [.cp 32 (.c (.nil tI))] .nil) (.ins (.grp [] [.cp 80 (.k 0)] (.grp [] [.len false 96 (.k 80)] (.grp [] [.mk 112 tI (.k 96)] (.grp [] [.cp 48 (.k 112)] .nil)))) (.ins (.grp [] [.cp 64 (.c (.int .i64 (0)))] .nil) (.jump 1 [0, 48, 64]))))),
  (1, (.ins (.grp [] [.cp 128 (.k 64)] (.grp [] [.cp 144 (.k 0)] (.grp [] [.len false 160 (.k 144)] (.grp [] [.bin .lss 176 (.k 128) (.k 160)] .nil)))) (.ite (.k 176) (.ins (.grp [] [.cp 224 (.k 48)] (.grp [] [.cp 240 (.k 64)] (.grp [] [.cp 256 (.k 0)] (.grp [] [.cp 272 (.k 64)] (.grp [] [.idx (some tI) [288] 0 (.k 256) (.k 272)] (.grp [] [.cp 304 (.k 288)] (.grp [] [.chk tI (.k 48) (.k 240)] (.grp [] [.setE 48 (.k 240) 0 [tI] [(.k 304)]] .nil)))))))) (.ins (.grp [] [.cp 192 (.k 64)] (.grp [] [.bin .add 208 (.k 192) (.c (.int .i64 (1)))] (.grp [] [.cp 64 (.k 208)] .nil))) (.jump 1 [0, 48, 64]))) (.ins (.grp [] [.cp 336 (.k 48)] (.grp [] [.cp 32 (.k 48)] .nil)) (.ret [(tLI, [(.k 32)])])))))]
noncomputable def c_laws_toIntS : List Lf.Fn := []
noncomputable def f_laws_toIntS : (List Int) → Option ((List Int)) := tyd [tLI] [tLI] (fnD (DOf c_laws_toIntS) s_laws_toIntS a_laws_toIntS.L b_laws_toIntS)
noncomputable def n_laws_toIntS : Lf.Fn := ⟨s_laws_toIntS, [tLI], [tLI], f_laws_toIntS⟩
noncomputable def l1_laws_toIntS (v0 : (List Int)) (v48 : (List Int)) (v64 : Int) : Option ((List Int)) := (Jl (DOf c_laws_toIntS) (irBlk a_laws_toIntS.L b_laws_toIntS) 1 [⟨tLI, v0⟩, ⟨tLI, v48⟩, ⟨tI, v64⟩]).bind (readOuts [tLI])
theorem k_laws_toIntS : compFn Try.prog (sigsOf c_laws_toIntS) s_laws_toIntS a_laws_toIntS = some b_laws_toIntS := by kernel_rfl
theorem g_laws_toIntS : Lf.Good Try.prog n_laws_toIntS := good_of (by intro _ h; simp [c_laws_toIntS] at h) k_laws_toIntS (by kernel_rfl) ⟨Try.f72, by kernel_rfl, by kernel_rfl, by kernel_rfl⟩ [tLI] [tLI]
theorem f_laws_toIntS_eq (x0 : (List Int)) : f_laws_toIntS x0 =
    bif mkOk (x0.length : Int) then
    l1_laws_toIntS x0 (List.replicate (Int.toNat (x0.length : Int)) (0 : Int)) (0 : Int)
    else none :=
  (show f_laws_toIntS x0 = (Jl (DOf c_laws_toIntS) (irBlk a_laws_toIntS.L b_laws_toIntS) 0 [⟨tLI, x0⟩]).bind (readOuts [tLI]) by kernel_rfl).trans ((Jstep2 (DKOf_eq c_laws_toIntS)).trans (by kernel_rfl))
theorem l1_laws_toIntS_eq (v0 : (List Int)) (v48 : (List Int)) (v64 : Int) : l1_laws_toIntS v0 v48 v64 =
    bif (decide (v64 < (v0.length : Int))) then
      (at? v0 v64).bind fun z1 =>
      (at? v48 v64).bind fun _ =>
      (at? v48 v64).bind fun z2 =>
      l1_laws_toIntS v0 (v48.set (Int.toNat v64) z1) (IntKind.wrap .i64 (v64 + (1 : Int)))
    else
      some v48 :=
  (show l1_laws_toIntS v0 v48 v64 = (Jl (DOf c_laws_toIntS) (irBlk a_laws_toIntS.L b_laws_toIntS) 1 [⟨tLI, v0⟩, ⟨tLI, v48⟩, ⟨tI, v64⟩]).bind (readOuts [tLI]) by kernel_rfl).trans ((Jstep2 (DKOf_eq c_laws_toIntS)).trans (by kernel_rfl))
/- loop.example/g01989/laws.toAccess -/
def s_laws_toAccess : Sig := ⟨19, [.v tPILI], [(tPILI, [none, some .sc])]⟩
def a_laws_toAccess : FAnn := ⟨[⟨[(0, ⟨0, [], .va⟩), (1, ⟨0, [], .va⟩), (15, ⟨0, [], .pl 2 true⟩)], [0, 1]⟩],
  (.seq (.reg [aT, aT]) (.seq (.reg [aT]) (.seq (.reg [aT, aT, aT, aT]) (.seq (.reg [aT, aT, aT, aT, aT]) (.seq (.reg [aT, aT]) .none))))),
  []⟩
def b_laws_toAccess : List (Nat × Tree) := [(0, (.ins (.grp [] [.cp 16 (.k 0), .cp 17 (.k 1)] (.grp [] [.cp 32 (.c (.int .i64 (0))), .cp 33 (.c (.nil tI))] .nil)) (.ins (.grp [] [.cp 48 (.c (.int .i64 (0))), .cp 49 (.c (.nil tI))] .nil) (.ins (.grp [] [.cp 80 (.k 16)] (.grp [] [.cp 48 (.k 80)] .nil)) (.ins (.grp [] [.cp 128 (.k 17)] (.grp [] [.call 0 [(tLI, [(.k 128)])] [[144]]] (.grp [] [.cp 49 (.k 144)] .nil))) (.ins (.grp [] [.cp 176 (.k 48), .cp 177 (.k 49)] (.grp [] [.cp 32 (.k 176), .cp 33 (.k 49)] .nil)) (.ret [(tPILI, [(.k 32), (.k 33)])])))))))]
noncomputable def c_laws_toAccess : List Lf.Fn := [n_laws_toIntS]
noncomputable def f_laws_toAccess : (Int × (List Int)) → Option ((Int × (List Int))) := tyd [tPILI] [tPILI] (fnD (DOf c_laws_toAccess) s_laws_toAccess a_laws_toAccess.L b_laws_toAccess)
noncomputable def n_laws_toAccess : Lf.Fn := ⟨s_laws_toAccess, [tPILI], [tPILI], f_laws_toAccess⟩
theorem k_laws_toAccess : compFn Try.prog (sigsOf c_laws_toAccess) s_laws_toAccess a_laws_toAccess = some b_laws_toAccess := by kernel_rfl
theorem g_laws_toAccess : Lf.Good Try.prog n_laws_toAccess := good_of (by simp only [c_laws_toAccess, List.mem_singleton]; rintro _ rfl; exact g_laws_toIntS) k_laws_toAccess (by kernel_rfl) ⟨Try.f19, by kernel_rfl, by kernel_rfl, by kernel_rfl⟩ [tPILI] [tPILI]
theorem f_laws_toAccess_eq (x0 : (Int × (List Int))) : f_laws_toAccess x0 =
    (f_laws_toIntS x0.2).bind fun z1 =>
    some (x0.1, z1) :=
  (show f_laws_toAccess x0 = (Jl (DOf c_laws_toAccess) (irBlk a_laws_toAccess.L b_laws_toAccess) 0 [⟨tI, x0.1⟩, ⟨tLI, x0.2⟩]).bind (readOuts [tPILI]) by kernel_rfl).trans ((Jstep2 (DKOf_eq c_laws_toAccess)).trans (by kernel_rfl))
/- loop.example/g01989/laws.toFact -/
def s_laws_toFact : Sig := ⟨98, [.v tPILI], [(tPILI, [none, some .sc])]⟩
def a_laws_toFact : FAnn := ⟨[⟨[(0, ⟨0, [], .va⟩), (1, ⟨0, [], .va⟩), (15, ⟨0, [], .pl 2 true⟩)], [0, 1]⟩],
  (.seq (.reg [aT, aT]) (.seq (.reg [aT]) (.seq (.reg [aT, aT, aT, aT]) (.seq (.reg [aT, aT, aT, aT, aT]) (.seq (.reg [aT, aT]) .none))))),
  []⟩
def b_laws_toFact : List (Nat × Tree) := [(0, (.ins (.grp [] [.cp 16 (.k 0), .cp 17 (.k 1)] (.grp [] [.cp 32 (.c (.int .i64 (0))), .cp 33 (.c (.nil tI))] .nil)) (.ins (.grp [] [.cp 48 (.c (.int .i64 (0))), .cp 49 (.c (.nil tI))] .nil) (.ins (.grp [] [.cp 80 (.k 16)] (.grp [] [.cp 48 (.k 80)] .nil)) (.ins (.grp [] [.cp 128 (.k 17)] (.grp [] [.call 0 [(tLI, [(.k 128)])] [[144]]] (.grp [] [.cp 49 (.k 144)] .nil))) (.ins (.grp [] [.cp 176 (.k 48), .cp 177 (.k 49)] (.grp [] [.cp 32 (.k 176), .cp 33 (.k 49)] .nil)) (.ret [(tPILI, [(.k 32), (.k 33)])])))))))]
noncomputable def c_laws_toFact : List Lf.Fn := [n_laws_toIntS]
noncomputable def f_laws_toFact : (Int × (List Int)) → Option ((Int × (List Int))) := tyd [tPILI] [tPILI] (fnD (DOf c_laws_toFact) s_laws_toFact a_laws_toFact.L b_laws_toFact)
noncomputable def n_laws_toFact : Lf.Fn := ⟨s_laws_toFact, [tPILI], [tPILI], f_laws_toFact⟩
theorem k_laws_toFact : compFn Try.prog (sigsOf c_laws_toFact) s_laws_toFact a_laws_toFact = some b_laws_toFact := by kernel_rfl
theorem g_laws_toFact : Lf.Good Try.prog n_laws_toFact := good_of (by simp only [c_laws_toFact, List.mem_singleton]; rintro _ rfl; exact g_laws_toIntS) k_laws_toFact (by kernel_rfl) ⟨Try.f98, by kernel_rfl, by kernel_rfl, by kernel_rfl⟩ [tPILI] [tPILI]
theorem f_laws_toFact_eq (x0 : (Int × (List Int))) : f_laws_toFact x0 =
    (f_laws_toIntS x0.2).bind fun z1 =>
    some (x0.1, z1) :=
  (show f_laws_toFact x0 = (Jl (DOf c_laws_toFact) (irBlk a_laws_toFact.L b_laws_toFact) 0 [⟨tI, x0.1⟩, ⟨tLI, x0.2⟩]).bind (readOuts [tPILI]) by kernel_rfl).trans ((Jstep2 (DKOf_eq c_laws_toFact)).trans (by kernel_rfl))
/- loop.example/g01989/laws.toFactS -/
def s_laws_toFactS : Sig := ⟨36, [.v tLPILI], [(tLPILI, [some mca4df])]⟩
def a_laws_toFactS : FAnn := ⟨[⟨[(0, ⟨0, [], .va⟩), (15, ⟨0, [], .pl 1 false⟩)], [0]⟩,
    ⟨[(0, ⟨0, [], .va⟩), (15, ⟨0, [], .pl 1 false⟩), (48, ⟨0, [], .ro mca4df none⟩), (63, ⟨0, [], .pl 1 false⟩), (64, ⟨0, [], .va⟩), (79, ⟨0, [], .pl 1 false⟩)], [0, 48, 64]⟩],
  (.seq (.reg [aT]) (.seq (.reg [aR, aT, aT, aT]) (.seq (.seq (.reg [aT]) (.block none (.loop 1 (.seq (.seq (.reg [aR, aR, aT, aT]) (.cond none .none .none)) (.seq (.block none (.reg [aR, aR, aR, aR, aT, aT, aT, aT, aT])) (.reg [aR, aT, aT])))))) (.seq (.reg [aR, aT]) .none)))),
  []⟩
def b_laws_toFactS : List (Nat × Tree) := [(0, (.ins (.grp [] [.cp 32 (.c (.nil tPILI))] .nil) (.ins (.grp [] [.cp 80 (.k 0)] (.grp [] [.len false 96 (.k 80)] (.grp [] [.mk 112 tPILI (.k 96)] (.grp [] [.cp 48 (.k 112)] .nil)))) (.ins (.grp [] [.cp 64 (.c (.int .i64 (0)))] .nil) (.jump 1 [0, 48, 64]))))),
  (1, (.ins (.grp [] [.cp 128 (.k 64)] (.grp [] [.cp 144 (.k 0)] (.grp [] [.len false 160 (.k 144)] (.grp [] [.bin .lss 176 (.k 128) (.k 160)] .nil)))) (.ite (.k 176) (.ins (.grp [] [.cp 224 (.k 48)] (.grp [] [.cp 240 (.k 64)] (.grp [] [.cp 256 (.k 0)] (.grp [] [.cp 272 (.k 64)] (.grp [] [.idx (some tPILI) [288, 289] 0 (.k 256) (.k 272)] (.grp [] [.cp 304 (.k 288), .cp 305 (.k 289)] (.grp [] [.call 0 [(tPILI, [(.k 304), (.k 305)])] [[320, 321]]] (.grp [] [.chk tPILI (.k 48) (.k 240)] (.grp [] [.setE 48 (.k 240) 0 [tI, tLI] [(.k 320), (.k 321)]] .nil))))))))) (.ins (.grp [] [.cp 192 (.k 64)] (.grp [] [.bin .add 208 (.k 192) (.c (.int .i64 (1)))] (.grp [] [.cp 64 (.k 208)] .nil))) (.jump 1 [0, 48, 64]))) (.ins (.grp [] [.cp 352 (.k 48)] (.grp [] [.cp 32 (.k 48)] .nil)) (.ret [(tLPILI, [(.k 32)])])))))]
noncomputable def c_laws_toFactS : List Lf.Fn := [n_laws_toFact]
noncomputable def f_laws_toFactS : (List (Int × (List Int))) → Option ((List (Int × (List Int)))) := tyd [tLPILI] [tLPILI] (fnD (DOf c_laws_toFactS) s_laws_toFactS a_laws_toFactS.L b_laws_toFactS)
noncomputable def n_laws_toFactS : Lf.Fn := ⟨s_laws_toFactS, [tLPILI], [tLPILI], f_laws_toFactS⟩
noncomputable def l1_laws_toFactS (v0 : (List (Int × (List Int)))) (v48 : (List (Int × (List Int)))) (v64 : Int) : Option ((List (Int × (List Int)))) := (Jl (DOf c_laws_toFactS) (irBlk a_laws_toFactS.L b_laws_toFactS) 1 [⟨tLPILI, v0⟩, ⟨tLPILI, v48⟩, ⟨tI, v64⟩]).bind (readOuts [tLPILI])
theorem k_laws_toFactS : compFn Try.prog (sigsOf c_laws_toFactS) s_laws_toFactS a_laws_toFactS = some b_laws_toFactS := by kernel_rfl
theorem g_laws_toFactS : Lf.Good Try.prog n_laws_toFactS := good_of (by simp only [c_laws_toFactS, List.mem_singleton]; rintro _ rfl; exact g_laws_toFact) k_laws_toFactS (by kernel_rfl) ⟨Try.f36, by kernel_rfl, by kernel_rfl, by kernel_rfl⟩ [tLPILI] [tLPILI]
theorem f_laws_toFactS_eq (x0 : (List (Int × (List Int)))) : f_laws_toFactS x0 =
    bif mkOk (x0.length : Int) then
    l1_laws_toFactS x0 (List.replicate (Int.toNat (x0.length : Int)) ((0 : Int), ([] : List Int))) (0 : Int)
    else none :=
  (show f_laws_toFactS x0 = (Jl (DOf c_laws_toFactS) (irBlk a_laws_toFactS.L b_laws_toFactS) 0 [⟨tLPILI, x0⟩]).bind (readOuts [tLPILI]) by kernel_rfl).trans ((Jstep2 (DKOf_eq c_laws_toFactS)).trans (by kernel_rfl))
theorem l1_laws_toFactS_eq (v0 : (List (Int × (List Int)))) (v48 : (List (Int × (List Int)))) (v64 : Int) : l1_laws_toFactS v0 v48 v64 =
    bif (decide (v64 < (v0.length : Int))) then
      (at? v0 v64).bind fun z1 =>
      (f_laws_toFact z1).bind fun z2 =>
      (at? v48 v64).bind fun _ =>
      (at? v48 v64).bind fun z3 =>
      l1_laws_toFactS v0 (v48.set (Int.toNat v64) z2) (IntKind.wrap .i64 (v64 + (1 : Int)))
    else
      some v48 :=
  (show l1_laws_toFactS v0 v48 v64 = (Jl (DOf c_laws_toFactS) (irBlk a_laws_toFactS.L b_laws_toFactS) 1 [⟨tLPILI, v0⟩, ⟨tLPILI, v48⟩, ⟨tI, v64⟩]).bind (readOuts [tLPILI]) by kernel_rfl).trans ((Jstep2 (DKOf_eq c_laws_toFactS)).trans (by kernel_rfl))
/- loop.example/g01989/laws.toStored -/
def s_laws_toStored : Sig := ⟨147, [.v tPPILIPLPILII], [(tPPILIPLPILII, [none, some .sc, some mca4df, none])]⟩
def a_laws_toStored : FAnn := ⟨[⟨[(0, ⟨0, [], .va⟩), (1, ⟨0, [], .va⟩), (2, ⟨0, [], .va⟩), (3, ⟨0, [], .va⟩), (15, ⟨0, [], .pl 4 true⟩)], [0, 1, 2, 3]⟩],
  (.seq (.reg [aT, aT]) (.seq (.reg [aT]) (.seq (.reg [aT, aT, aT, aT, aT]) (.seq (.reg [aT, aT, ⟨.take, 1, []⟩, aT, aT]) (.seq (.reg [aT, aT, aT, aT]) (.seq (.reg [aT, aT]) .none)))))),
  []⟩
def b_laws_toStored : List (Nat × Tree) := [(0, (.ins (.grp [] [.cp 16 (.k 0), .cp 17 (.k 1), .cp 18 (.k 2), .cp 19 (.k 3)] (.grp [] [.cp 32 (.c (.int .i64 (0))), .cp 33 (.c (.nil tI)), .cp 34 (.c (.nil tPILI)), .cp 35 (.c (.int .i64 (0)))] .nil)) (.ins (.grp [] [.cp 48 (.c (.int .i64 (0))), .cp 49 (.c (.nil tI)), .cp 50 (.c (.nil tPILI)), .cp 51 (.c (.int .i64 (0)))] .nil) (.ins (.grp [] [.cp 80 (.k 16), .cp 81 (.k 17)] (.grp [] [.call 0 [(tPILI, [(.k 80), (.k 81)])] [[96, 97]]] (.grp [] [.cp 48 (.k 96), .cp 49 (.k 97)] .nil))) (.ins (.grp [] [.cp 144 (.k 18)] (.grp [] [.call 1 [(tLPILI, [(.k 144)])] [[160]]] (.grp [] [.cp 50 (.k 160)] .nil))) (.ins (.grp [] [.cp 208 (.k 19)] (.grp [] [.cp 51 (.k 208)] .nil)) (.ins (.grp [] [.cp 240 (.k 48), .cp 241 (.k 49), .cp 242 (.k 50), .cp 243 (.k 51)] (.grp [] [.cp 32 (.k 240), .cp 33 (.k 49), .cp 34 (.k 50), .cp 35 (.k 243)] .nil)) (.ret [(tPPILIPLPILII, [(.k 32), (.k 33), (.k 34), (.k 35)])]))))))))]
noncomputable def c_laws_toStored : List Lf.Fn := [n_laws_toAccess, n_laws_toFactS]
noncomputable def f_laws_toStored : ((Int × (List Int)) × ((List (Int × (List Int))) × Int)) → Option (((Int × (List Int)) × ((List (Int × (List Int))) × Int))) := tyd [tPPILIPLPILII] [tPPILIPLPILII] (fnD (DOf c_laws_toStored) s_laws_toStored a_laws_toStored.L b_laws_toStored)
noncomputable def n_laws_toStored : Lf.Fn := ⟨s_laws_toStored, [tPPILIPLPILII], [tPPILIPLPILII], f_laws_toStored⟩
theorem k_laws_toStored : compFn Try.prog (sigsOf c_laws_toStored) s_laws_toStored a_laws_toStored = some b_laws_toStored := by kernel_rfl
theorem g_laws_toStored : Lf.Good Try.prog n_laws_toStored := good_of (by simp only [c_laws_toStored, List.mem_cons, List.not_mem_nil, or_false]; rintro _ (rfl | rfl); exact g_laws_toAccess; exact g_laws_toFactS) k_laws_toStored (by kernel_rfl) ⟨Try.f147, by kernel_rfl, by kernel_rfl, by kernel_rfl⟩ [tPPILIPLPILII] [tPPILIPLPILII]
theorem f_laws_toStored_eq (x0 : ((Int × (List Int)) × ((List (Int × (List Int))) × Int))) : f_laws_toStored x0 =
    (f_laws_toAccess x0.1).bind fun z1 =>
    (f_laws_toFactS x0.2.1).bind fun z2 =>
    some (z1, (z2, x0.2.2)) :=
  (show f_laws_toStored x0 = (Jl (DOf c_laws_toStored) (irBlk a_laws_toStored.L b_laws_toStored) 0 [⟨tI, x0.1.1⟩, ⟨tLI, x0.1.2⟩, ⟨tLPILI, x0.2.1⟩, ⟨tI, x0.2.2⟩]).bind (readOuts [tPPILIPLPILII]) by kernel_rfl).trans ((Jstep2 (DKOf_eq c_laws_toStored)).trans (by kernel_rfl))
/- loop.example/g01989/laws.toStoredS -/
def s_laws_toStoredS : Sig := ⟨79, [.v tL8780a], [(tL8780a, [some m4887a])]⟩
def a_laws_toStoredS : FAnn := ⟨[⟨[(0, ⟨0, [], .va⟩), (15, ⟨0, [], .pl 1 false⟩)], [0]⟩,
    ⟨[(0, ⟨0, [], .va⟩), (15, ⟨0, [], .pl 1 false⟩), (48, ⟨0, [], .ro m4887a none⟩), (63, ⟨0, [], .pl 1 false⟩), (64, ⟨0, [], .va⟩), (79, ⟨0, [], .pl 1 false⟩)], [0, 48, 64]⟩],
  (.seq (.reg [aT]) (.seq (.reg [aR, aT, aT, aT]) (.seq (.seq (.reg [aT]) (.block none (.loop 1 (.seq (.seq (.reg [aR, aR, aT, aT]) (.cond none .none .none)) (.seq (.block none (.reg [aR, aR, aR, aR, aT, aT, aT, aT, aT])) (.reg [aR, aT, aT])))))) (.seq (.reg [aR, aT]) .none)))),
  []⟩
def b_laws_toStoredS : List (Nat × Tree) := [(0, (.ins (.grp [] [.cp 32 (.c (.nil tPPILIPLPILII))] .nil) (.ins (.grp [] [.cp 80 (.k 0)] (.grp [] [.len false 96 (.k 80)] (.grp [] [.mk 112 tPPILIPLPILII (.k 96)] (.grp [] [.cp 48 (.k 112)] .nil)))) (.ins (.grp [] [.cp 64 (.c (.int .i64 (0)))] .nil) (.jump 1 [0, 48, 64]))))),
  (1, (.ins (.grp [] [.cp 128 (.k 64)] (.grp [] [.cp 144 (.k 0)] (.grp [] [.len false 160 (.k 144)] (.grp [] [.bin .lss 176 (.k 128) (.k 160)] .nil)))) (.ite (.k 176) (.ins (.grp [] [.cp 224 (.k 48)] (.grp [] [.cp 240 (.k 64)] (.grp [] [.cp 256 (.k 0)] (.grp [] [.cp 272 (.k 64)] (.grp [] [.idx (some tPPILIPLPILII) [288, 289, 290, 291] 0 (.k 256) (.k 272)] (.grp [] [.cp 304 (.k 288), .cp 305 (.k 289), .cp 306 (.k 290), .cp 307 (.k 291)] (.grp [] [.call 0 [(tPPILIPLPILII, [(.k 304), (.k 305), (.k 306), (.k 307)])] [[320, 321, 322, 323]]] (.grp [] [.chk tPPILIPLPILII (.k 48) (.k 240)] (.grp [] [.setE 48 (.k 240) 0 [tI, tLI, tLPILI, tI] [(.k 320), (.k 321), (.k 322), (.k 323)]] .nil))))))))) (.ins (.grp [] [.cp 192 (.k 64)] (.grp [] [.bin .add 208 (.k 192) (.c (.int .i64 (1)))] (.grp [] [.cp 64 (.k 208)] .nil))) (.jump 1 [0, 48, 64]))) (.ins (.grp [] [.cp 352 (.k 48)] (.grp [] [.cp 32 (.k 48)] .nil)) (.ret [(tL8780a, [(.k 32)])])))))]
noncomputable def c_laws_toStoredS : List Lf.Fn := [n_laws_toStored]
noncomputable def f_laws_toStoredS : (List ((Int × (List Int)) × ((List (Int × (List Int))) × Int))) → Option ((List ((Int × (List Int)) × ((List (Int × (List Int))) × Int)))) := tyd [tL8780a] [tL8780a] (fnD (DOf c_laws_toStoredS) s_laws_toStoredS a_laws_toStoredS.L b_laws_toStoredS)
noncomputable def n_laws_toStoredS : Lf.Fn := ⟨s_laws_toStoredS, [tL8780a], [tL8780a], f_laws_toStoredS⟩
noncomputable def l1_laws_toStoredS (v0 : (List ((Int × (List Int)) × ((List (Int × (List Int))) × Int)))) (v48 : (List ((Int × (List Int)) × ((List (Int × (List Int))) × Int)))) (v64 : Int) : Option ((List ((Int × (List Int)) × ((List (Int × (List Int))) × Int)))) := (Jl (DOf c_laws_toStoredS) (irBlk a_laws_toStoredS.L b_laws_toStoredS) 1 [⟨tL8780a, v0⟩, ⟨tL8780a, v48⟩, ⟨tI, v64⟩]).bind (readOuts [tL8780a])
theorem k_laws_toStoredS : compFn Try.prog (sigsOf c_laws_toStoredS) s_laws_toStoredS a_laws_toStoredS = some b_laws_toStoredS := by kernel_rfl
theorem g_laws_toStoredS : Lf.Good Try.prog n_laws_toStoredS := good_of (by simp only [c_laws_toStoredS, List.mem_singleton]; rintro _ rfl; exact g_laws_toStored) k_laws_toStoredS (by kernel_rfl) ⟨Try.f79, by kernel_rfl, by kernel_rfl, by kernel_rfl⟩ [tL8780a] [tL8780a]
theorem f_laws_toStoredS_eq (x0 : (List ((Int × (List Int)) × ((List (Int × (List Int))) × Int)))) : f_laws_toStoredS x0 =
    bif mkOk (x0.length : Int) then
    l1_laws_toStoredS x0 (List.replicate (Int.toNat (x0.length : Int)) (((0 : Int), ([] : List Int)), (([] : List (Int × (List Int))), (0 : Int)))) (0 : Int)
    else none :=
  (show f_laws_toStoredS x0 = (Jl (DOf c_laws_toStoredS) (irBlk a_laws_toStoredS.L b_laws_toStoredS) 0 [⟨tL8780a, x0⟩]).bind (readOuts [tL8780a]) by kernel_rfl).trans ((Jstep2 (DKOf_eq c_laws_toStoredS)).trans (by kernel_rfl))
theorem l1_laws_toStoredS_eq (v0 : (List ((Int × (List Int)) × ((List (Int × (List Int))) × Int)))) (v48 : (List ((Int × (List Int)) × ((List (Int × (List Int))) × Int)))) (v64 : Int) : l1_laws_toStoredS v0 v48 v64 =
    bif (decide (v64 < (v0.length : Int))) then
      (at? v0 v64).bind fun z1 =>
      (f_laws_toStored z1).bind fun z2 =>
      (at? v48 v64).bind fun _ =>
      (at? v48 v64).bind fun z3 =>
      l1_laws_toStoredS v0 (v48.set (Int.toNat v64) z2) (IntKind.wrap .i64 (v64 + (1 : Int)))
    else
      some v48 :=
  (show l1_laws_toStoredS v0 v48 v64 = (Jl (DOf c_laws_toStoredS) (irBlk a_laws_toStoredS.L b_laws_toStoredS) 1 [⟨tL8780a, v0⟩, ⟨tL8780a, v48⟩, ⟨tI, v64⟩]).bind (readOuts [tL8780a]) by kernel_rfl).trans ((Jstep2 (DKOf_eq c_laws_toStoredS)).trans (by kernel_rfl))
/- loop.example/g01989/laws.toCache -/
def s_laws_toCache : Sig := ⟨18, [.v tP4d7df], [(tP4d7df, [some m4887a, none])]⟩
def a_laws_toCache : FAnn := ⟨[⟨[(0, ⟨0, [], .va⟩), (1, ⟨0, [], .va⟩), (15, ⟨0, [], .pl 2 true⟩)], [0, 1]⟩],
  (.seq (.reg [aT, aT]) (.seq (.reg [aT]) (.seq (.reg [aT, aT, aT, aT, aT]) (.seq (.reg [aT, aT, aT, aT]) (.seq (.reg [aT, aT]) .none))))),
  []⟩
def b_laws_toCache : List (Nat × Tree) := [(0, (.ins (.grp [] [.cp 16 (.k 0), .cp 17 (.k 1)] (.grp [] [.cp 32 (.c (.nil tPPILIPLPILII)), .cp 33 (.c (.int .i64 (0)))] .nil)) (.ins (.grp [] [.cp 48 (.c (.nil tPPILIPLPILII)), .cp 49 (.c (.int .i64 (0)))] .nil) (.ins (.grp [] [.cp 80 (.k 16)] (.grp [] [.call 0 [(tL8780a, [(.k 80)])] [[96]]] (.grp [] [.cp 48 (.k 96)] .nil))) (.ins (.grp [] [.cp 144 (.k 17)] (.grp [] [.cp 49 (.k 144)] .nil)) (.ins (.grp [] [.cp 176 (.k 48), .cp 177 (.k 49)] (.grp [] [.cp 32 (.k 48), .cp 33 (.k 177)] .nil)) (.ret [(tP4d7df, [(.k 32), (.k 33)])])))))))]
noncomputable def c_laws_toCache : List Lf.Fn := [n_laws_toStoredS]
noncomputable def f_laws_toCache : ((List ((Int × (List Int)) × ((List (Int × (List Int))) × Int))) × Int) → Option (((List ((Int × (List Int)) × ((List (Int × (List Int))) × Int))) × Int)) := tyd [tP4d7df] [tP4d7df] (fnD (DOf c_laws_toCache) s_laws_toCache a_laws_toCache.L b_laws_toCache)
noncomputable def n_laws_toCache : Lf.Fn := ⟨s_laws_toCache, [tP4d7df], [tP4d7df], f_laws_toCache⟩
theorem k_laws_toCache : compFn Try.prog (sigsOf c_laws_toCache) s_laws_toCache a_laws_toCache = some b_laws_toCache := by kernel_rfl
theorem g_laws_toCache : Lf.Good Try.prog n_laws_toCache := good_of (by simp only [c_laws_toCache, List.mem_singleton]; rintro _ rfl; exact g_laws_toStoredS) k_laws_toCache (by kernel_rfl) ⟨Try.f18, by kernel_rfl, by kernel_rfl, by kernel_rfl⟩ [tP4d7df] [tP4d7df]
theorem f_laws_toCache_eq (x0 : ((List ((Int × (List Int)) × ((List (Int × (List Int))) × Int))) × Int)) : f_laws_toCache x0 =
    (f_laws_toStoredS x0.1).bind fun z1 =>
    some (z1, x0.2) :=
  (show f_laws_toCache x0 = (Jl (DOf c_laws_toCache) (irBlk a_laws_toCache.L b_laws_toCache) 0 [⟨tL8780a, x0.1⟩, ⟨tI, x0.2⟩]).bind (readOuts [tP4d7df]) by kernel_rfl).trans ((Jstep2 (DKOf_eq c_laws_toCache)).trans (by kernel_rfl))
/- loop.example/g01989/spec.l2Ints -/
def s_spec_l2Ints : Sig := ⟨107, [.v tLI, .v tLI], [(.bool, [none])]⟩
def a_spec_l2Ints : FAnn := ⟨[⟨[(0, ⟨0, [], .va⟩), (15, ⟨0, [], .pl 1 false⟩), (16, ⟨0, [], .va⟩), (31, ⟨0, [], .pl 1 false⟩)], [0, 16]⟩,
    ⟨[(0, ⟨0, [], .va⟩), (15, ⟨0, [], .pl 1 false⟩), (16, ⟨0, [], .va⟩), (31, ⟨0, [], .pl 1 false⟩), (80, ⟨0, [], .va⟩), (95, ⟨0, [], .pl 1 false⟩)], [0, 16, 80]⟩],
  (.seq (.reg [aT]) (.seq (.seq (.reg [aR, aT, aR, aT, aT]) (.cond none (.seq (.reg [aT]) .none) .none)) (.seq (.seq (.reg [aT]) (.block none (.loop 1 (.seq (.seq (.reg [aR, aR, aT, aT]) (.cond none .none .none)) (.seq (.block none (.seq (.reg [aR, aR, aT, aT, aR, aR, aT, aT, aT]) (.cond none (.seq (.reg [aT]) .none) .none))) (.reg [aR, aT, aT])))))) (.seq (.reg [aT]) .none)))),
  []⟩
def b_spec_l2Ints : List (Nat × Tree) := [(0, (.ins (.grp [] [.cp 64 (.c (.bool false))] .nil) (.ins (.grp [] [.cp 96 (.k 0)] (.grp [] [.len false 112 (.k 96)] (.grp [] [.cp 128 (.k 16)] (.grp [] [.len false 144 (.k 128)] (.grp [] [.bin .neq 160 (.k 112) (.k 144)] .nil))))) (.ite (.k 160) (.ins (.grp [] [.cp 64 (.c (.bool false))] .nil) (.ret [(.bool, [(.k 64)])])) (.ins (.grp [] [.cp 80 (.c (.int .i64 (0)))] .nil) (.jump 1 [0, 16, 80])))))),
  (1, (.ins (.grp [] [.cp 176 (.k 80)] (.grp [] [.cp 192 (.k 0)] (.grp [] [.len false 208 (.k 192)] (.grp [] [.bin .lss 224 (.k 176) (.k 208)] .nil)))) (.ite (.k 224) (.ins (.grp [] [.cp 272 (.k 0)] (.grp [] [.cp 288 (.k 80)] (.grp [] [.idx (some tI) [304] 0 (.k 272) (.k 288)] (.grp [] [.cp 320 (.k 304)] (.grp [] [.cp 336 (.k 16)] (.grp [] [.cp 352 (.k 80)] (.grp [] [.idx (some tI) [368] 0 (.k 336) (.k 352)] (.grp [] [.cp 384 (.k 368)] (.grp [] [.bin .neq 400 (.k 320) (.k 384)] .nil))))))))) (.ite (.k 400) (.ins (.grp [] [.cp 64 (.c (.bool false))] .nil) (.ret [(.bool, [(.k 64)])])) (.ins (.grp [] [.cp 240 (.k 80)] (.grp [] [.bin .add 256 (.k 240) (.c (.int .i64 (1)))] (.grp [] [.cp 80 (.k 256)] .nil))) (.jump 1 [0, 16, 80])))) (.ins (.grp [] [.cp 64 (.c (.bool true))] .nil) (.ret [(.bool, [(.k 64)])])))))]
noncomputable def c_spec_l2Ints : List Lf.Fn := []
noncomputable def f_spec_l2Ints : (List Int) → (List Int) → Option (Bool) := tyd [tLI, tLI] [.bool] (fnD (DOf c_spec_l2Ints) s_spec_l2Ints a_spec_l2Ints.L b_spec_l2Ints)
noncomputable def n_spec_l2Ints : Lf.Fn := ⟨s_spec_l2Ints, [tLI, tLI], [.bool], f_spec_l2Ints⟩
noncomputable def l1_spec_l2Ints (v0 : (List Int)) (v16 : (List Int)) (v80 : Int) : Option (Bool) := (Jl (DOf c_spec_l2Ints) (irBlk a_spec_l2Ints.L b_spec_l2Ints) 1 [⟨tLI, v0⟩, ⟨tLI, v16⟩, ⟨tI, v80⟩]).bind (readOuts [.bool])
theorem k_spec_l2Ints : compFn Try.prog (sigsOf c_spec_l2Ints) s_spec_l2Ints a_spec_l2Ints = some b_spec_l2Ints := by kernel_rfl
theorem g_spec_l2Ints : Lf.Good Try.prog n_spec_l2Ints := good_of (by intro _ h; simp [c_spec_l2Ints] at h) k_spec_l2Ints (by kernel_rfl) ⟨Try.f107, by kernel_rfl, by kernel_rfl, by kernel_rfl⟩ [tLI, tLI] [.bool]
theorem f_spec_l2Ints_eq (x0 : (List Int)) (x1 : (List Int)) : f_spec_l2Ints x0 x1 =
    bif ((x0.length : Int) != (x1.length : Int)) then
      some false
    else
      l1_spec_l2Ints x0 x1 (0 : Int) :=
  (show f_spec_l2Ints x0 x1 = (Jl (DOf c_spec_l2Ints) (irBlk a_spec_l2Ints.L b_spec_l2Ints) 0 [⟨tLI, x0⟩, ⟨tLI, x1⟩]).bind (readOuts [.bool]) by kernel_rfl).trans ((Jstep2 (DKOf_eq c_spec_l2Ints)).trans (by kernel_rfl))
theorem l1_spec_l2Ints_eq (v0 : (List Int)) (v16 : (List Int)) (v80 : Int) : l1_spec_l2Ints v0 v16 v80 =
    bif (decide (v80 < (v0.length : Int))) then
      (at? v0 v80).bind fun z1 =>
      (at? v16 v80).bind fun z2 =>
      bif (z1 != z2) then
        some false
      else
        l1_spec_l2Ints v0 v16 (IntKind.wrap .i64 (v80 + (1 : Int)))
    else
      some true :=
  (show l1_spec_l2Ints v0 v16 v80 = (Jl (DOf c_spec_l2Ints) (irBlk a_spec_l2Ints.L b_spec_l2Ints) 1 [⟨tLI, v0⟩, ⟨tLI, v16⟩, ⟨tI, v80⟩]).bind (readOuts [.bool]) by kernel_rfl).trans ((Jstep2 (DKOf_eq c_spec_l2Ints)).trans (by kernel_rfl))
/- loop.example/g01989/spec.l5Same -/
def s_spec_l5Same : Sig := ⟨78, [.v tPILI, .v tPILI], [(.bool, [none])]⟩
def a_spec_l5Same : FAnn := ⟨[⟨[(0, ⟨0, [], .va⟩), (1, ⟨0, [], .va⟩), (15, ⟨0, [], .pl 2 true⟩), (16, ⟨0, [], .va⟩), (17, ⟨0, [], .va⟩), (31, ⟨0, [], .pl 2 true⟩)], [0, 1, 16, 17]⟩],
  (.seq (.reg [aT, aT, aT]) (.seq (.reg [aT, aT, aT, aT, aT, aR, aT, aT, aT, aT, aT, aT, aT]) .none)),
  []⟩
def b_spec_l5Same : List (Nat × Tree) := [(0, (.ins (.grp [] [.cp 32 (.k 0), .cp 33 (.k 1)] (.grp [] [.cp 48 (.k 16), .cp 49 (.k 17)] (.grp [] [.cp 64 (.c (.bool false))] .nil))) (.ins (.grp [] [.cp 96 (.k 32)] (.grp [] [.cp 128 (.k 48)] (.grp [] [.bin .eql 144 (.k 96) (.k 128)] (.grp [] [.cp 160 (.k 144)] (.sel 256 160 (.grp [] [.cp 192 (.k 33)] (.grp [] [.cp 224 (.k 49)] (.grp [] [.call 0 [(tLI, [(.k 192)]), (tLI, [(.k 224)])] [[240]]] .nil))) (.k 240) .nil (.c (.bool false)) (.grp [] [.cp 64 (.k 256)] .nil)))))) (.ret [(.bool, [(.k 64)])]))))]
noncomputable def c_spec_l5Same : List Lf.Fn := [n_spec_l2Ints]
noncomputable def f_spec_l5Same : (Int × (List Int)) → (Int × (List Int)) → Option (Bool) := tyd [tPILI, tPILI] [.bool] (fnD (DOf c_spec_l5Same) s_spec_l5Same a_spec_l5Same.L b_spec_l5Same)
noncomputable def n_spec_l5Same : Lf.Fn := ⟨s_spec_l5Same, [tPILI, tPILI], [.bool], f_spec_l5Same⟩
theorem k_spec_l5Same : compFn Try.prog (sigsOf c_spec_l5Same) s_spec_l5Same a_spec_l5Same = some b_spec_l5Same := by kernel_rfl
theorem g_spec_l5Same : Lf.Good Try.prog n_spec_l5Same := good_of (by simp only [c_spec_l5Same, List.mem_singleton]; rintro _ rfl; exact g_spec_l2Ints) k_spec_l5Same (by kernel_rfl) ⟨Try.f78, by kernel_rfl, by kernel_rfl, by kernel_rfl⟩ [tPILI, tPILI] [.bool]
theorem f_spec_l5Same_eq (x0 : (Int × (List Int))) (x1 : (Int × (List Int))) : f_spec_l5Same x0 x1 =
    (bif (x0.1 == x1.1) then (f_spec_l2Ints x0.2 x1.2).bind fun z2 =>
      some z2 else some false).bind fun z1 =>
    some z1 :=
  (show f_spec_l5Same x0 x1 = (Jl (DOf c_spec_l5Same) (irBlk a_spec_l5Same.L b_spec_l5Same) 0 [⟨tI, x0.1⟩, ⟨tLI, x0.2⟩, ⟨tI, x1.1⟩, ⟨tLI, x1.2⟩]).bind (readOuts [.bool]) by kernel_rfl).trans ((Jstep2 (DKOf_eq c_spec_l5Same)).trans (by kernel_rfl))
/- loop.example/g01989/spec.FindStored -/
def s_spec_FindStored : Sig := ⟨17, [.v tP4d7df, .v tPILI], [(tI, [none])]⟩
def a_spec_FindStored : FAnn := ⟨[⟨[(0, ⟨0, [], .va⟩), (1, ⟨0, [], .va⟩), (15, ⟨0, [], .pl 2 true⟩), (16, ⟨0, [], .va⟩), (17, ⟨0, [], .va⟩), (31, ⟨0, [], .pl 2 true⟩)], [0, 1, 16, 17]⟩,
    ⟨[(32, ⟨0, [], .va⟩), (33, ⟨0, [], .va⟩), (47, ⟨0, [], .bx 2⟩), (48, ⟨0, [], .va⟩), (49, ⟨0, [], .va⟩), (63, ⟨0, [], .bx 2⟩), (80, ⟨0, [], .va⟩), (95, ⟨0, [], .pl 1 false⟩)], [32, 33, 48, 49, 80]⟩],
  (.seq (.reg [aT, aT, aT]) (.seq (.seq (.reg [aT]) (.block none (.loop 1 (.seq (.seq (.reg [aR, aT, aT, aT, aT]) (.cond none .none .none)) (.seq (.block none (.seq (.reg [aT, aT, aR, aT, aT, aT, aT, aT]) (.cond none (.seq (.reg [aR, aT]) .none) .none))) (.reg [aR, aT, aT])))))) (.seq (.reg [aT]) .none))),
  []⟩
def b_spec_FindStored : List (Nat × Tree) := [(0, (.ins (.grp [] [.cp 32 (.k 0), .cp 33 (.k 1)] (.grp [] [.cp 48 (.k 16), .cp 49 (.k 17)] (.grp [] [.cp 64 (.c (.int .i64 (0)))] .nil))) (.ins (.grp [] [.cp 80 (.c (.int .i64 (0)))] .nil) (.jump 1 [32, 33, 48, 49, 80])))),
  (1, (.ins (.grp [] [.cp 96 (.k 80)] (.grp [] [.cp 128 (.k 32)] (.grp [] [.len false 144 (.k 128)] (.grp [] [.bin .lss 160 (.k 96) (.k 144)] .nil)))) (.ite (.k 160) (.ins (.grp [] [.cp 224 (.k 32)] (.grp [] [.cp 240 (.k 80)] (.grp [] [.idx (some tPPILIPLPILII) [256, 257, 258, 259] 0 (.k 224) (.k 240)] (.grp [] [.cp 272 (.k 256), .cp 273 (.k 257)] (.grp [] [.cp 288 (.k 272), .cp 289 (.k 273)] (.grp [] [.cp 304 (.k 48), .cp 305 (.k 49)] (.grp [] [.call 0 [(tPILI, [(.k 288), (.k 289)]), (tPILI, [(.k 304), (.k 305)])] [[320]]] .nil))))))) (.ite (.k 320) (.ins (.grp [] [.cp 336 (.k 80)] (.grp [] [.cp 64 (.k 336)] .nil)) (.ret [(tI, [(.k 64)])])) (.ins (.grp [] [.cp 176 (.k 80)] (.grp [] [.bin .add 192 (.k 176) (.c (.int .i64 (1)))] (.grp [] [.cp 80 (.k 192)] .nil))) (.jump 1 [32, 33, 48, 49, 80])))) (.ins (.grp [] [.cp 64 (.c (.int .i64 (-1)))] .nil) (.ret [(tI, [(.k 64)])])))))]
noncomputable def c_spec_FindStored : List Lf.Fn := [n_spec_l5Same]
noncomputable def f_spec_FindStored : ((List ((Int × (List Int)) × ((List (Int × (List Int))) × Int))) × Int) → (Int × (List Int)) → Option (Int) := tyd [tP4d7df, tPILI] [tI] (fnD (DOf c_spec_FindStored) s_spec_FindStored a_spec_FindStored.L b_spec_FindStored)
noncomputable def n_spec_FindStored : Lf.Fn := ⟨s_spec_FindStored, [tP4d7df, tPILI], [tI], f_spec_FindStored⟩
noncomputable def l1_spec_FindStored (v32 : (List ((Int × (List Int)) × ((List (Int × (List Int))) × Int)))) (v33 : Int) (v48 : Int) (v49 : (List Int)) (v80 : Int) : Option (Int) := (Jl (DOf c_spec_FindStored) (irBlk a_spec_FindStored.L b_spec_FindStored) 1 [⟨tL8780a, v32⟩, ⟨tI, v33⟩, ⟨tI, v48⟩, ⟨tLI, v49⟩, ⟨tI, v80⟩]).bind (readOuts [tI])
theorem k_spec_FindStored : compFn Try.prog (sigsOf c_spec_FindStored) s_spec_FindStored a_spec_FindStored = some b_spec_FindStored := by kernel_rfl
theorem g_spec_FindStored : Lf.Good Try.prog n_spec_FindStored := good_of (by simp only [c_spec_FindStored, List.mem_singleton]; rintro _ rfl; exact g_spec_l5Same) k_spec_FindStored (by kernel_rfl) ⟨Try.f17, by kernel_rfl, by kernel_rfl, by kernel_rfl⟩ [tP4d7df, tPILI] [tI]
theorem f_spec_FindStored_eq (x0 : ((List ((Int × (List Int)) × ((List (Int × (List Int))) × Int))) × Int)) (x1 : (Int × (List Int))) : f_spec_FindStored x0 x1 =
    l1_spec_FindStored x0.1 x0.2 x1.1 x1.2 (0 : Int) :=
  (show f_spec_FindStored x0 x1 = (Jl (DOf c_spec_FindStored) (irBlk a_spec_FindStored.L b_spec_FindStored) 0 [⟨tL8780a, x0.1⟩, ⟨tI, x0.2⟩, ⟨tI, x1.1⟩, ⟨tLI, x1.2⟩]).bind (readOuts [tI]) by kernel_rfl).trans ((Jstep2 (DKOf_eq c_spec_FindStored)).trans (by kernel_rfl))
theorem l1_spec_FindStored_eq (v32 : (List ((Int × (List Int)) × ((List (Int × (List Int))) × Int)))) (v33 : Int) (v48 : Int) (v49 : (List Int)) (v80 : Int) : l1_spec_FindStored v32 v33 v48 v49 v80 =
    bif (decide (v80 < (v32.length : Int))) then
      (at? v32 v80).bind fun z1 =>
      (f_spec_l5Same z1.1 (v48, v49)).bind fun z2 =>
      bif z2 then
        some v80
      else
        l1_spec_FindStored v32 v33 v48 v49 (IntKind.wrap .i64 (v80 + (1 : Int)))
    else
      some (-1 : Int) :=
  (show l1_spec_FindStored v32 v33 v48 v49 v80 = (Jl (DOf c_spec_FindStored) (irBlk a_spec_FindStored.L b_spec_FindStored) 1 [⟨tL8780a, v32⟩, ⟨tI, v33⟩, ⟨tI, v48⟩, ⟨tLI, v49⟩, ⟨tI, v80⟩]).bind (readOuts [tI]) by kernel_rfl).trans ((Jstep2 (DKOf_eq c_spec_FindStored)).trans (by kernel_rfl))
/- slices.Equal[[]int,int] -/
def s_slices_Equal_int : Sig := ⟨111, [.v tLI, .v tLI], [(.bool, [none])]⟩
def a_slices_Equal_int : FAnn := ⟨[⟨[(0, ⟨0, [], .va⟩), (15, ⟨0, [], .pl 1 false⟩), (16, ⟨0, [], .va⟩), (31, ⟨0, [], .pl 1 false⟩)], [0, 16]⟩,
    ⟨[(0, ⟨0, [], .va⟩), (15, ⟨0, [], .pl 1 false⟩), (16, ⟨0, [], .va⟩), (31, ⟨0, [], .pl 1 false⟩), (192, ⟨0, [], .va⟩), (207, ⟨0, [], .pl 1 false⟩), (208, ⟨0, [], .va⟩), (223, ⟨0, [], .pl 1 false⟩)], [0, 16, 192, 208]⟩],
  (.seq (.reg [aT]) (.seq (.seq (.reg [aR, aT, aR, aT, aT]) (.cond none (.seq (.reg [aT]) .none) .none)) (.seq (.seq (.reg [aR, aT, aR]) (.block none (.loop 1 (.seq (.reg [aT]) (.seq (.cond none .none .none) (.seq (.block none (.seq (.reg [aR, aT]) (.seq (.reg [aR, aR, aT, aT, aR, aR, aT, aT, aT]) (.cond none (.seq (.reg [aT]) .none) .none)))) (.reg [aT, aR]))))))) (.seq (.reg [aT]) .none)))),
  []⟩
def b_slices_Equal_int : List (Nat × Tree) := [(0, (.ins (.grp [] [.cp 64 (.c (.bool false))] .nil) (.ins (.grp [] [.cp 96 (.k 0)] (.grp [] [.len false 112 (.k 96)] (.grp [] [.cp 128 (.k 16)] (.grp [] [.len false 144 (.k 128)] (.grp [] [.bin .neq 160 (.k 112) (.k 144)] .nil))))) (.ite (.k 160) (.ins (.grp [] [.cp 64 (.c (.bool false))] .nil) (.ret [(.bool, [(.k 64)])])) (.ins (.grp [] [.cp 176 (.k 0)] (.grp [] [.len false 192 (.k 176)] (.grp [] [.cp 208 (.c (.int .i64 (0)))] .nil))) (.jump 1 [0, 16, 192, 208])))))),
  (1, (.ins (.grp [] [.bin .lss 224 (.k 208) (.k 192)] .nil) (.ite (.k 224) (.ins (.grp [] [.cp 240 (.k 208)] (.grp [] [.cp 80 (.k 240)] .nil)) (.ins (.grp [] [.cp 256 (.k 0)] (.grp [] [.cp 272 (.k 80)] (.grp [] [.idx (some tI) [288] 0 (.k 256) (.k 272)] (.grp [] [.cp 304 (.k 288)] (.grp [] [.cp 320 (.k 16)] (.grp [] [.cp 336 (.k 80)] (.grp [] [.idx (some tI) [352] 0 (.k 320) (.k 336)] (.grp [] [.cp 368 (.k 352)] (.grp [] [.bin .neq 384 (.k 304) (.k 368)] .nil))))))))) (.ite (.k 384) (.ins (.grp [] [.cp 64 (.c (.bool false))] .nil) (.ret [(.bool, [(.k 64)])])) (.ins (.grp [] [.bin .add 400 (.k 208) (.c (.int .i64 (1)))] (.grp [] [.cp 208 (.k 400)] .nil)) (.jump 1 [0, 16, 192, 208]))))) (.ins (.grp [] [.cp 64 (.c (.bool true))] .nil) (.ret [(.bool, [(.k 64)])])))))]
noncomputable def c_slices_Equal_int : List Lf.Fn := []
noncomputable def f_slices_Equal_int : (List Int) → (List Int) → Option (Bool) := tyd [tLI, tLI] [.bool] (fnD (DOf c_slices_Equal_int) s_slices_Equal_int a_slices_Equal_int.L b_slices_Equal_int)
noncomputable def n_slices_Equal_int : Lf.Fn := ⟨s_slices_Equal_int, [tLI, tLI], [.bool], f_slices_Equal_int⟩
noncomputable def l1_slices_Equal_int (v0 : (List Int)) (v16 : (List Int)) (v192 : Int) (v208 : Int) : Option (Bool) := (Jl (DOf c_slices_Equal_int) (irBlk a_slices_Equal_int.L b_slices_Equal_int) 1 [⟨tLI, v0⟩, ⟨tLI, v16⟩, ⟨tI, v192⟩, ⟨tI, v208⟩]).bind (readOuts [.bool])
theorem k_slices_Equal_int : compFn Try.prog (sigsOf c_slices_Equal_int) s_slices_Equal_int a_slices_Equal_int = some b_slices_Equal_int := by kernel_rfl
theorem g_slices_Equal_int : Lf.Good Try.prog n_slices_Equal_int := good_of (by intro _ h; simp [c_slices_Equal_int] at h) k_slices_Equal_int (by kernel_rfl) ⟨Try.f111, by kernel_rfl, by kernel_rfl, by kernel_rfl⟩ [tLI, tLI] [.bool]
theorem f_slices_Equal_int_eq (x0 : (List Int)) (x1 : (List Int)) : f_slices_Equal_int x0 x1 =
    bif ((x0.length : Int) != (x1.length : Int)) then
      some false
    else
      l1_slices_Equal_int x0 x1 (x0.length : Int) (0 : Int) :=
  (show f_slices_Equal_int x0 x1 = (Jl (DOf c_slices_Equal_int) (irBlk a_slices_Equal_int.L b_slices_Equal_int) 0 [⟨tLI, x0⟩, ⟨tLI, x1⟩]).bind (readOuts [.bool]) by kernel_rfl).trans ((Jstep2 (DKOf_eq c_slices_Equal_int)).trans (by kernel_rfl))
theorem l1_slices_Equal_int_eq (v0 : (List Int)) (v16 : (List Int)) (v192 : Int) (v208 : Int) : l1_slices_Equal_int v0 v16 v192 v208 =
    bif (decide (v208 < v192)) then
      (at? v0 v208).bind fun z1 =>
      (at? v16 v208).bind fun z2 =>
      bif (z1 != z2) then
        some false
      else
        l1_slices_Equal_int v0 v16 v192 (IntKind.wrap .i64 (v208 + (1 : Int)))
    else
      some true :=
  (show l1_slices_Equal_int v0 v16 v192 v208 = (Jl (DOf c_slices_Equal_int) (irBlk a_slices_Equal_int.L b_slices_Equal_int) 1 [⟨tLI, v0⟩, ⟨tLI, v16⟩, ⟨tI, v192⟩, ⟨tI, v208⟩]).bind (readOuts [.bool]) by kernel_rfl).trans ((Jstep2 (DKOf_eq c_slices_Equal_int)).trans (by kernel_rfl))
/- loop.example/g01989/impl.sameAccess -/
def s_impl_sameAccess : Sig := ⟨82, [.v tPILI, .v tPILI], [(.bool, [none])]⟩
def a_impl_sameAccess : FAnn := ⟨[⟨[(0, ⟨0, [], .va⟩), (1, ⟨0, [], .va⟩), (15, ⟨0, [], .pl 2 true⟩), (16, ⟨0, [], .va⟩), (17, ⟨0, [], .va⟩), (31, ⟨0, [], .pl 2 true⟩)], [0, 1, 16, 17]⟩],
  (.seq (.reg [aT, aT, aT]) (.seq (.reg [aT, aT, aT, aT, aT, aR, aT, aT, aT, aT, aT, aT, aT]) .none)),
  []⟩
def b_impl_sameAccess : List (Nat × Tree) := [(0, (.ins (.grp [] [.cp 32 (.k 0), .cp 33 (.k 1)] (.grp [] [.cp 48 (.k 16), .cp 49 (.k 17)] (.grp [] [.cp 64 (.c (.bool false))] .nil))) (.ins (.grp [] [.cp 96 (.k 32)] (.grp [] [.cp 128 (.k 48)] (.grp [] [.bin .eql 144 (.k 96) (.k 128)] (.grp [] [.cp 160 (.k 144)] (.sel 256 160 (.grp [] [.cp 192 (.k 33)] (.grp [] [.cp 224 (.k 49)] (.grp [] [.call 0 [(tLI, [(.k 192)]), (tLI, [(.k 224)])] [[240]]] .nil))) (.k 240) .nil (.c (.bool false)) (.grp [] [.cp 64 (.k 256)] .nil)))))) (.ret [(.bool, [(.k 64)])]))))]
noncomputable def c_impl_sameAccess : List Lf.Fn := [n_slices_Equal_int]
noncomputable def f_impl_sameAccess : (Int × (List Int)) → (Int × (List Int)) → Option (Bool) := tyd [tPILI, tPILI] [.bool] (fnD (DOf c_impl_sameAccess) s_impl_sameAccess a_impl_sameAccess.L b_impl_sameAccess)
noncomputable def n_impl_sameAccess : Lf.Fn := ⟨s_impl_sameAccess, [tPILI, tPILI], [.bool], f_impl_sameAccess⟩
theorem k_impl_sameAccess : compFn Try.prog (sigsOf c_impl_sameAccess) s_impl_sameAccess a_impl_sameAccess = some b_impl_sameAccess := by kernel_rfl
theorem g_impl_sameAccess : Lf.Good Try.prog n_impl_sameAccess := good_of (by simp only [c_impl_sameAccess, List.mem_singleton]; rintro _ rfl; exact g_slices_Equal_int) k_impl_sameAccess (by kernel_rfl) ⟨Try.f82, by kernel_rfl, by kernel_rfl, by kernel_rfl⟩ [tPILI, tPILI] [.bool]
theorem f_impl_sameAccess_eq (x0 : (Int × (List Int))) (x1 : (Int × (List Int))) : f_impl_sameAccess x0 x1 =
    (bif (x0.1 == x1.1) then (f_slices_Equal_int x0.2 x1.2).bind fun z2 =>
      some z2 else some false).bind fun z1 =>
    some z1 :=
  (show f_impl_sameAccess x0 x1 = (Jl (DOf c_impl_sameAccess) (irBlk a_impl_sameAccess.L b_impl_sameAccess) 0 [⟨tI, x0.1⟩, ⟨tLI, x0.2⟩, ⟨tI, x1.1⟩, ⟨tLI, x1.2⟩]).bind (readOuts [.bool]) by kernel_rfl).trans ((Jstep2 (DKOf_eq c_impl_sameAccess)).trans (by kernel_rfl))
/- loop.example/g01989/impl.FindStored$1 -/
def s_impl_FindStored_1 : Sig := ⟨81, [.v tPPILIPLPILII, .p tPILI], [(.bool, [none])]⟩
def a_impl_FindStored_1 : FAnn := ⟨[⟨[(0, ⟨0, [], .va⟩), (1, ⟨0, [], .va⟩), (2, ⟨0, [], .va⟩), (3, ⟨0, [], .va⟩), (15, ⟨0, [], .pl 4 true⟩), (16, ⟨0, [], .va⟩), (17, ⟨0, [], .va⟩), (31, ⟨0, [], .pa 2⟩)], [0, 1, 2, 3, 16, 17]⟩],
  (.seq (.reg [aT, aT]) (.seq (.reg [aT, aT, aT, aT, aT]) .none)),
  []⟩
def b_impl_FindStored_1 : List (Nat × Tree) := [(0, (.ins (.grp [] [.cp 32 (.k 0), .cp 33 (.k 1), .cp 34 (.k 2), .cp 35 (.k 3)] (.grp [] [.cp 48 (.c (.bool false))] .nil)) (.ins (.grp [] [.cp 80 (.k 32), .cp 81 (.k 33)] (.grp [] [.cp 96 (.k 16), .cp 97 (.k 17)] (.grp [] [.call 0 [(tPILI, [(.k 80), (.k 81)]), (tPILI, [(.k 96), (.k 97)])] [[112]]] (.grp [] [.cp 48 (.k 112)] .nil)))) (.ret [(.bool, [(.k 48)])]))))]
noncomputable def c_impl_FindStored_1 : List Lf.Fn := [n_impl_sameAccess]
noncomputable def f_impl_FindStored_1 : ((Int × (List Int)) × ((List (Int × (List Int))) × Int)) → (Int × (List Int)) → Option (Bool) := tyd [tPPILIPLPILII, tPILI] [.bool] (fnD (DOf c_impl_FindStored_1) s_impl_FindStored_1 a_impl_FindStored_1.L b_impl_FindStored_1)
noncomputable def n_impl_FindStored_1 : Lf.Fn := ⟨s_impl_FindStored_1, [tPPILIPLPILII, tPILI], [.bool], f_impl_FindStored_1⟩
theorem k_impl_FindStored_1 : compFn Try.prog (sigsOf c_impl_FindStored_1) s_impl_FindStored_1 a_impl_FindStored_1 = some b_impl_FindStored_1 := by kernel_rfl
theorem g_impl_FindStored_1 : Lf.Good Try.prog n_impl_FindStored_1 := good_of (by simp only [c_impl_FindStored_1, List.mem_singleton]; rintro _ rfl; exact g_impl_sameAccess) k_impl_FindStored_1 (by kernel_rfl) ⟨Try.f81, by kernel_rfl, by kernel_rfl, by kernel_rfl⟩ [tPPILIPLPILII, tPILI] [.bool]
theorem f_impl_FindStored_1_eq (x0 : ((Int × (List Int)) × ((List (Int × (List Int))) × Int))) (x1 : (Int × (List Int))) : f_impl_FindStored_1 x0 x1 =
    (f_impl_sameAccess x0.1 x1).bind fun z1 =>
    some z1 :=
  (show f_impl_FindStored_1 x0 x1 = (Jl (DOf c_impl_FindStored_1) (irBlk a_impl_FindStored_1.L b_impl_FindStored_1) 0 [⟨tI, x0.1.1⟩, ⟨tLI, x0.1.2⟩, ⟨tLPILI, x0.2.1⟩, ⟨tI, x0.2.2⟩, ⟨tI, x1.1⟩, ⟨tLI, x1.2⟩]).bind (readOuts [.bool]) by kernel_rfl).trans ((Jstep2 (DKOf_eq c_impl_FindStored_1)).trans (by kernel_rfl))
/- slices.IndexFunc[[]loop.example/g01989/impl.Stored,loop.example/g01989/impl.Stored] -/
def s_slices_IndexFunc_Stored__impl_FindStored_1 : Sig := ⟨80, [.v tL8780a, .c 81 [tPILI]], [(tI, [none])]⟩
def a_slices_IndexFunc_Stored__impl_FindStored_1 : FAnn := ⟨[⟨[(0, ⟨0, [], .va⟩), (15, ⟨0, [], .pl 1 false⟩), (16, ⟨0, [], .va⟩), (17, ⟨0, [], .va⟩), (31, ⟨0, [], .cp 81 [2]⟩)], [0, 16, 17]⟩,
    ⟨[(0, ⟨0, [], .va⟩), (15, ⟨0, [], .pl 1 false⟩), (16, ⟨0, [], .va⟩), (17, ⟨0, [], .va⟩), (31, ⟨0, [], .cp 81 [2]⟩), (112, ⟨0, [], .va⟩), (127, ⟨0, [], .pl 1 false⟩), (128, ⟨0, [], .va⟩), (143, ⟨0, [], .pl 1 false⟩)], [0, 16, 17, 112, 128]⟩],
  (.seq (.reg [aT]) (.seq (.seq (.reg [aR, aT, aR]) (.block none (.loop 1 (.seq (.reg [aT]) (.seq (.cond none .none .none) (.seq (.block none (.seq (.reg [aR, aT]) (.seq (.reg [aR, aR, aR, aT, aT, aT]) (.cond none (.seq (.reg [aR, aT]) .none) .none)))) (.reg [aT, aR]))))))) (.seq (.reg [aT]) .none))),
  []⟩
def b_slices_IndexFunc_Stored__impl_FindStored_1 : List (Nat × Tree) := [(0, (.ins (.grp [] [.cp 64 (.c (.int .i64 (0)))] .nil) (.ins (.grp [] [.cp 96 (.k 0)] (.grp [] [.len false 112 (.k 96)] (.grp [] [.cp 128 (.c (.int .i64 (0)))] .nil))) (.jump 1 [0, 16, 17, 112, 128])))),
  (1, (.ins (.grp [] [.bin .lss 144 (.k 128) (.k 112)] .nil) (.ite (.k 144) (.ins (.grp [] [.cp 160 (.k 128)] (.grp [] [.cp 80 (.k 160)] .nil)) (.ins (.grp [] [.cp 176 (.k 16), .cp 177 (.k 17)] (.grp [] [.cp 192 (.k 0)] (.grp [] [.cp 208 (.k 80)] (.grp [] [.idx (some tPPILIPLPILII) [224, 225, 226, 227] 0 (.k 192) (.k 208)] (.grp [] [.cp 240 (.k 224), .cp 241 (.k 225), .cp 242 (.k 226), .cp 243 (.k 227)] (.grp [] [.call 0 [(tPPILIPLPILII, [(.k 240), (.k 241), (.k 242), (.k 243)]), (tPILI, [(.k 176), (.k 177)])] [[256]]] .nil)))))) (.ite (.k 256) (.ins (.grp [] [.cp 272 (.k 80)] (.grp [] [.cp 64 (.k 272)] .nil)) (.ret [(tI, [(.k 64)])])) (.ins (.grp [] [.bin .add 288 (.k 128) (.c (.int .i64 (1)))] (.grp [] [.cp 128 (.k 288)] .nil)) (.jump 1 [0, 16, 17, 112, 128]))))) (.ins (.grp [] [.cp 64 (.c (.int .i64 (-1)))] .nil) (.ret [(tI, [(.k 64)])])))))]
noncomputable def c_slices_IndexFunc_Stored__impl_FindStored_1 : List Lf.Fn := [n_impl_FindStored_1]
noncomputable def f_slices_IndexFunc_Stored__impl_FindStored_1 : (List ((Int × (List Int)) × ((List (Int × (List Int))) × Int))) → (Int × (List Int)) → Option (Int) := tyd [tL8780a, tPILI] [tI] (fnD (DOf c_slices_IndexFunc_Stored__impl_FindStored_1) s_slices_IndexFunc_Stored__impl_FindStored_1 a_slices_IndexFunc_Stored__impl_FindStored_1.L b_slices_IndexFunc_Stored__impl_FindStored_1)
noncomputable def n_slices_IndexFunc_Stored__impl_FindStored_1 : Lf.Fn := ⟨s_slices_IndexFunc_Stored__impl_FindStored_1, [tL8780a, tPILI], [tI], f_slices_IndexFunc_Stored__impl_FindStored_1⟩
noncomputable def l1_slices_IndexFunc_Stored__impl_FindStored_1 (v0 : (List ((Int × (List Int)) × ((List (Int × (List Int))) × Int)))) (v16 : Int) (v17 : (List Int)) (v112 : Int) (v128 : Int) : Option (Int) := (Jl (DOf c_slices_IndexFunc_Stored__impl_FindStored_1) (irBlk a_slices_IndexFunc_Stored__impl_FindStored_1.L b_slices_IndexFunc_Stored__impl_FindStored_1) 1 [⟨tL8780a, v0⟩, ⟨tI, v16⟩, ⟨tLI, v17⟩, ⟨tI, v112⟩, ⟨tI, v128⟩]).bind (readOuts [tI])
theorem k_slices_IndexFunc_Stored__impl_FindStored_1 : compFn Try.prog (sigsOf c_slices_IndexFunc_Stored__impl_FindStored_1) s_slices_IndexFunc_Stored__impl_FindStored_1 a_slices_IndexFunc_Stored__impl_FindStored_1 = some b_slices_IndexFunc_Stored__impl_FindStored_1 := by kernel_rfl
theorem g_slices_IndexFunc_Stored__impl_FindStored_1 : Lf.Good Try.prog n_slices_IndexFunc_Stored__impl_FindStored_1 := good_of (by simp only [c_slices_IndexFunc_Stored__impl_FindStored_1, List.mem_singleton]; rintro _ rfl; exact g_impl_FindStored_1) k_slices_IndexFunc_Stored__impl_FindStored_1 (by kernel_rfl) ⟨Try.f80, by kernel_rfl, by kernel_rfl, by kernel_rfl⟩ [tL8780a, tPILI] [tI]
theorem f_slices_IndexFunc_Stored__impl_FindStored_1_eq (x0 : (List ((Int × (List Int)) × ((List (Int × (List Int))) × Int)))) (x1 : (Int × (List Int))) : f_slices_IndexFunc_Stored__impl_FindStored_1 x0 x1 =
    l1_slices_IndexFunc_Stored__impl_FindStored_1 x0 x1.1 x1.2 (x0.length : Int) (0 : Int) :=
  (show f_slices_IndexFunc_Stored__impl_FindStored_1 x0 x1 = (Jl (DOf c_slices_IndexFunc_Stored__impl_FindStored_1) (irBlk a_slices_IndexFunc_Stored__impl_FindStored_1.L b_slices_IndexFunc_Stored__impl_FindStored_1) 0 [⟨tL8780a, x0⟩, ⟨tI, x1.1⟩, ⟨tLI, x1.2⟩]).bind (readOuts [tI]) by kernel_rfl).trans ((Jstep2 (DKOf_eq c_slices_IndexFunc_Stored__impl_FindStored_1)).trans (by kernel_rfl))
theorem l1_slices_IndexFunc_Stored__impl_FindStored_1_eq (v0 : (List ((Int × (List Int)) × ((List (Int × (List Int))) × Int)))) (v16 : Int) (v17 : (List Int)) (v112 : Int) (v128 : Int) : l1_slices_IndexFunc_Stored__impl_FindStored_1 v0 v16 v17 v112 v128 =
    bif (decide (v128 < v112)) then
      (at? v0 v128).bind fun z1 =>
      (f_impl_FindStored_1 z1 (v16, v17)).bind fun z2 =>
      bif z2 then
        some v128
      else
        l1_slices_IndexFunc_Stored__impl_FindStored_1 v0 v16 v17 v112 (IntKind.wrap .i64 (v128 + (1 : Int)))
    else
      some (-1 : Int) :=
  (show l1_slices_IndexFunc_Stored__impl_FindStored_1 v0 v16 v17 v112 v128 = (Jl (DOf c_slices_IndexFunc_Stored__impl_FindStored_1) (irBlk a_slices_IndexFunc_Stored__impl_FindStored_1.L b_slices_IndexFunc_Stored__impl_FindStored_1) 1 [⟨tL8780a, v0⟩, ⟨tI, v16⟩, ⟨tLI, v17⟩, ⟨tI, v112⟩, ⟨tI, v128⟩]).bind (readOuts [tI]) by kernel_rfl).trans ((Jstep2 (DKOf_eq c_slices_IndexFunc_Stored__impl_FindStored_1)).trans (by kernel_rfl))
/- loop.example/g01989/impl.FindStored -/
def s_impl_FindStored : Sig := ⟨20, [.v tP4d7df, .v tPILI], [(tI, [none])]⟩
def a_impl_FindStored : FAnn := ⟨[⟨[(0, ⟨0, [], .va⟩), (1, ⟨0, [], .va⟩), (15, ⟨0, [], .pl 2 true⟩), (16, ⟨0, [], .va⟩), (17, ⟨0, [], .va⟩), (31, ⟨0, [], .pl 2 true⟩)], [0, 1, 16, 17]⟩],
  (.seq (.reg [aT, aT, aT]) (.seq (.reg [aT, aT, aT, aT, aT]) .none)),
  []⟩
def b_impl_FindStored : List (Nat × Tree) := [(0, (.ins (.grp [] [.cp 32 (.k 0), .cp 33 (.k 1)] (.grp [] [.cp 48 (.k 16), .cp 49 (.k 17)] (.grp [] [.cp 64 (.c (.int .i64 (0)))] .nil))) (.ins (.grp [] [.cp 96 (.k 32)] (.grp [] [.call 0 [(tL8780a, [(.k 96)]), (tPILI, [(.k 48), (.k 49)])] [[128]]] (.grp [] [.cp 64 (.k 128)] .nil))) (.ret [(tI, [(.k 64)])]))))]
noncomputable def c_impl_FindStored : List Lf.Fn := [n_slices_IndexFunc_Stored__impl_FindStored_1]
noncomputable def f_impl_FindStored : ((List ((Int × (List Int)) × ((List (Int × (List Int))) × Int))) × Int) → (Int × (List Int)) → Option (Int) := tyd [tP4d7df, tPILI] [tI] (fnD (DOf c_impl_FindStored) s_impl_FindStored a_impl_FindStored.L b_impl_FindStored)
noncomputable def n_impl_FindStored : Lf.Fn := ⟨s_impl_FindStored, [tP4d7df, tPILI], [tI], f_impl_FindStored⟩
theorem k_impl_FindStored : compFn Try.prog (sigsOf c_impl_FindStored) s_impl_FindStored a_impl_FindStored = some b_impl_FindStored := by kernel_rfl
theorem g_impl_FindStored : Lf.Good Try.prog n_impl_FindStored := good_of (by simp only [c_impl_FindStored, List.mem_singleton]; rintro _ rfl; exact g_slices_IndexFunc_Stored__impl_FindStored_1) k_impl_FindStored (by kernel_rfl) ⟨Try.f20, by kernel_rfl, by kernel_rfl, by kernel_rfl⟩ [tP4d7df, tPILI] [tI]
theorem f_impl_FindStored_eq (x0 : ((List ((Int × (List Int)) × ((List (Int × (List Int))) × Int))) × Int)) (x1 : (Int × (List Int))) : f_impl_FindStored x0 x1 =
    (f_slices_IndexFunc_Stored__impl_FindStored_1 x0.1 x1).bind fun z1 =>
    some z1 :=
  (show f_impl_FindStored x0 x1 = (Jl (DOf c_impl_FindStored) (irBlk a_impl_FindStored.L b_impl_FindStored) 0 [⟨tL8780a, x0.1⟩, ⟨tI, x0.2⟩, ⟨tI, x1.1⟩, ⟨tLI, x1.2⟩]).bind (readOuts [tI]) by kernel_rfl).trans ((Jstep2 (DKOf_eq c_impl_FindStored)).trans (by kernel_rfl))
/- loop.example/g01989/laws.eqIntS -/
def s_laws_eqIntS : Sig := ⟨45, [.v tLI, .v tLI], [(.bool, [none])]⟩
def a_laws_eqIntS : FAnn := ⟨[⟨[(0, ⟨0, [], .va⟩), (15, ⟨0, [], .pl 1 false⟩), (16, ⟨0, [], .va⟩), (31, ⟨0, [], .pl 1 false⟩)], [0, 16]⟩,
    ⟨[(0, ⟨0, [], .va⟩), (15, ⟨0, [], .pl 1 false⟩), (16, ⟨0, [], .va⟩), (31, ⟨0, [], .pl 1 false⟩), (80, ⟨0, [], .va⟩), (95, ⟨0, [], .pl 1 false⟩)], [0, 16, 80]⟩],
  (.seq (.reg [aT]) (.seq (.seq (.reg [aR, aT, aR, aT, aT]) (.cond none (.seq (.reg [aT]) .none) .none)) (.seq (.seq (.reg [aT]) (.block none (.loop 1 (.seq (.seq (.reg [aR, aR, aT, aT]) (.cond none .none .none)) (.seq (.block none (.seq (.reg [aR, aR, aT, aT, aR, aR, aT, aT, aT]) (.cond none (.seq (.reg [aT]) .none) .none))) (.reg [aR, aT, aT])))))) (.seq (.reg [aT]) .none)))),
  []⟩
def b_laws_eqIntS : List (Nat × Tree) := [(0, (.ins (.grp [] [.cp 64 (.c (.bool false))] .nil) (.ins (.grp [] [.cp 96 (.k 0)] (.grp [] [.len false 112 (.k 96)] (.grp [] [.cp 128 (.k 16)] (.grp [] [.len false 144 (.k 128)] (.grp [] [.bin .neq 160 (.k 112) (.k 144)] .nil))))) (.ite (.k 160) (.ins (.grp [] [.cp 64 (.c (.bool false))] .nil) (.ret [(.bool, [(.k 64)])])) (.ins (.grp [] [.cp 80 (.c (.int .i64 (0)))] .nil) (.jump 1 [0, 16, 80])))))),
  (1, (.ins (.grp [] [.cp 176 (.k 80)] (.grp [] [.cp 192 (.k 0)] (.grp [] [.len false 208 (.k 192)] (.grp [] [.bin .lss 224 (.k 176) (.k 208)] .nil)))) (.ite (.k 224) (.ins (.grp [] [.cp 272 (.k 0)] (.grp [] [.cp 288 (.k 80)] (.grp [] [.idx (some tI) [304] 0 (.k 272) (.k 288)] (.grp [] [.cp 320 (.k 304)] (.grp [] [.cp 336 (.k 16)] (.grp [] [.cp 352 (.k 80)] (.grp [] [.idx (some tI) [368] 0 (.k 336) (.k 352)] (.grp [] [.cp 384 (.k 368)] (.grp [] [.bin .neq 400 (.k 320) (.k 384)] .nil))))))))) (.ite (.k 400) (.ins (.grp [] [.cp 64 (.c (.bool false))] .nil) (.ret [(.bool, [(.k 64)])])) (.ins (.grp [] [.cp 240 (.k 80)] (.grp [] [.bin .add 256 (.k 240) (.c (.int .i64 (1)))] (.grp [] [.cp 80 (.k 256)] .nil))) (.jump 1 [0, 16, 80])))) (.ins (.grp [] [.cp 64 (.c (.bool true))] .nil) (.ret [(.bool, [(.k 64)])])))))]
noncomputable def c_laws_eqIntS : List Lf.Fn := []
noncomputable def f_laws_eqIntS : (List Int) → (List Int) → Option (Bool) := tyd [tLI, tLI] [.bool] (fnD (DOf c_laws_eqIntS) s_laws_eqIntS a_laws_eqIntS.L b_laws_eqIntS)
noncomputable def n_laws_eqIntS : Lf.Fn := ⟨s_laws_eqIntS, [tLI, tLI], [.bool], f_laws_eqIntS⟩
noncomputable def l1_laws_eqIntS (v0 : (List Int)) (v16 : (List Int)) (v80 : Int) : Option (Bool) := (Jl (DOf c_laws_eqIntS) (irBlk a_laws_eqIntS.L b_laws_eqIntS) 1 [⟨tLI, v0⟩, ⟨tLI, v16⟩, ⟨tI, v80⟩]).bind (readOuts [.bool])
theorem k_laws_eqIntS : compFn Try.prog (sigsOf c_laws_eqIntS) s_laws_eqIntS a_laws_eqIntS = some b_laws_eqIntS := by kernel_rfl
theorem g_laws_eqIntS : Lf.Good Try.prog n_laws_eqIntS := good_of (by intro _ h; simp [c_laws_eqIntS] at h) k_laws_eqIntS (by kernel_rfl) ⟨Try.f45, by kernel_rfl, by kernel_rfl, by kernel_rfl⟩ [tLI, tLI] [.bool]
theorem f_laws_eqIntS_eq (x0 : (List Int)) (x1 : (List Int)) : f_laws_eqIntS x0 x1 =
    bif ((x0.length : Int) != (x1.length : Int)) then
      some false
    else
      l1_laws_eqIntS x0 x1 (0 : Int) :=
  (show f_laws_eqIntS x0 x1 = (Jl (DOf c_laws_eqIntS) (irBlk a_laws_eqIntS.L b_laws_eqIntS) 0 [⟨tLI, x0⟩, ⟨tLI, x1⟩]).bind (readOuts [.bool]) by kernel_rfl).trans ((Jstep2 (DKOf_eq c_laws_eqIntS)).trans (by kernel_rfl))
theorem l1_laws_eqIntS_eq (v0 : (List Int)) (v16 : (List Int)) (v80 : Int) : l1_laws_eqIntS v0 v16 v80 =
    bif (decide (v80 < (v0.length : Int))) then
      (at? v0 v80).bind fun z1 =>
      (at? v16 v80).bind fun z2 =>
      bif (z1 != z2) then
        some false
      else
        l1_laws_eqIntS v0 v16 (IntKind.wrap .i64 (v80 + (1 : Int)))
    else
      some true :=
  (show l1_laws_eqIntS v0 v16 v80 = (Jl (DOf c_laws_eqIntS) (irBlk a_laws_eqIntS.L b_laws_eqIntS) 1 [⟨tLI, v0⟩, ⟨tLI, v16⟩, ⟨tI, v80⟩]).bind (readOuts [.bool]) by kernel_rfl).trans ((Jstep2 (DKOf_eq c_laws_eqIntS)).trans (by kernel_rfl))
/- loop.example/g01989/laws.eqAccess -/
def s_laws_eqAccess : Sig := ⟨22, [.v tPILI, .v tPILI], [(.bool, [none])]⟩
def a_laws_eqAccess : FAnn := ⟨[⟨[(0, ⟨0, [], .va⟩), (1, ⟨0, [], .va⟩), (15, ⟨0, [], .pl 2 true⟩), (16, ⟨0, [], .va⟩), (17, ⟨0, [], .va⟩), (31, ⟨0, [], .pl 2 true⟩)], [0, 1, 16, 17]⟩],
  (.seq (.reg [aT, aT, aT]) (.seq (.seq (.reg [aT, aT, aT, aT, aT]) (.cond none (.seq (.reg [aT]) .none) .none)) (.seq (.seq (.reg [aT, aT, aT, aT, aT, aT]) (.cond none (.seq (.reg [aT]) .none) .none)) (.seq (.reg [aT]) .none)))),
  []⟩
def b_laws_eqAccess : List (Nat × Tree) := [(0, (.ins (.grp [] [.cp 32 (.k 0), .cp 33 (.k 1)] (.grp [] [.cp 48 (.k 16), .cp 49 (.k 17)] (.grp [] [.cp 64 (.c (.bool false))] .nil))) (.ins (.grp [] [.cp 96 (.k 32)] (.grp [] [.cp 128 (.k 48)] (.grp [] [.bin .neq 144 (.k 96) (.k 128)] .nil))) (.ite (.k 144) (.ins (.grp [] [.cp 64 (.c (.bool false))] .nil) (.ret [(.bool, [(.k 64)])])) (.ins (.grp [] [.cp 176 (.k 33)] (.grp [] [.cp 208 (.k 49)] (.grp [] [.call 0 [(tLI, [(.k 176)]), (tLI, [(.k 208)])] [[224]]] (.grp [] [.not 240 (.k 224)] .nil)))) (.ite (.k 240) (.ins (.grp [] [.cp 64 (.c (.bool false))] .nil) (.ret [(.bool, [(.k 64)])])) (.ins (.grp [] [.cp 64 (.c (.bool true))] .nil) (.ret [(.bool, [(.k 64)])]))))))))]
noncomputable def c_laws_eqAccess : List Lf.Fn := [n_laws_eqIntS]
noncomputable def f_laws_eqAccess : (Int × (List Int)) → (Int × (List Int)) → Option (Bool) := tyd [tPILI, tPILI] [.bool] (fnD (DOf c_laws_eqAccess) s_laws_eqAccess a_laws_eqAccess.L b_laws_eqAccess)
noncomputable def n_laws_eqAccess : Lf.Fn := ⟨s_laws_eqAccess, [tPILI, tPILI], [.bool], f_laws_eqAccess⟩
theorem k_laws_eqAccess : compFn Try.prog (sigsOf c_laws_eqAccess) s_laws_eqAccess a_laws_eqAccess = some b_laws_eqAccess := by kernel_rfl
theorem g_laws_eqAccess : Lf.Good Try.prog n_laws_eqAccess := good_of (by simp only [c_laws_eqAccess, List.mem_singleton]; rintro _ rfl; exact g_laws_eqIntS) k_laws_eqAccess (by kernel_rfl) ⟨Try.f22, by kernel_rfl, by kernel_rfl, by kernel_rfl⟩ [tPILI, tPILI] [.bool]
theorem f_laws_eqAccess_eq (x0 : (Int × (List Int))) (x1 : (Int × (List Int))) : f_laws_eqAccess x0 x1 =
    bif (x0.1 != x1.1) then
      some false
    else
      (f_laws_eqIntS x0.2 x1.2).bind fun z1 =>
      bif (!z1) then
        some false
      else
        some true :=
  (show f_laws_eqAccess x0 x1 = (Jl (DOf c_laws_eqAccess) (irBlk a_laws_eqAccess.L b_laws_eqAccess) 0 [⟨tI, x0.1⟩, ⟨tLI, x0.2⟩, ⟨tI, x1.1⟩, ⟨tLI, x1.2⟩]).bind (readOuts [.bool]) by kernel_rfl).trans ((Jstep2 (DKOf_eq c_laws_eqAccess)).trans (by kernel_rfl))
/- loop.example/g01989/laws.eqFact -/
def s_laws_eqFact : Sig := ⟨101, [.v tPILI, .v tPILI], [(.bool, [none])]⟩
def a_laws_eqFact : FAnn := ⟨[⟨[(0, ⟨0, [], .va⟩), (1, ⟨0, [], .va⟩), (15, ⟨0, [], .pl 2 true⟩), (16, ⟨0, [], .va⟩), (17, ⟨0, [], .va⟩), (31, ⟨0, [], .pl 2 true⟩)], [0, 1, 16, 17]⟩],
  (.seq (.reg [aT, aT, aT]) (.seq (.seq (.reg [aT, aT, aT, aT, aT]) (.cond none (.seq (.reg [aT]) .none) .none)) (.seq (.seq (.reg [aT, aT, aT, aT, aT, aT]) (.cond none (.seq (.reg [aT]) .none) .none)) (.seq (.reg [aT]) .none)))),
  []⟩
def b_laws_eqFact : List (Nat × Tree) := [(0, (.ins (.grp [] [.cp 32 (.k 0), .cp 33 (.k 1)] (.grp [] [.cp 48 (.k 16), .cp 49 (.k 17)] (.grp [] [.cp 64 (.c (.bool false))] .nil))) (.ins (.grp [] [.cp 96 (.k 32)] (.grp [] [.cp 128 (.k 48)] (.grp [] [.bin .neq 144 (.k 96) (.k 128)] .nil))) (.ite (.k 144) (.ins (.grp [] [.cp 64 (.c (.bool false))] .nil) (.ret [(.bool, [(.k 64)])])) (.ins (.grp [] [.cp 176 (.k 33)] (.grp [] [.cp 208 (.k 49)] (.grp [] [.call 0 [(tLI, [(.k 176)]), (tLI, [(.k 208)])] [[224]]] (.grp [] [.not 240 (.k 224)] .nil)))) (.ite (.k 240) (.ins (.grp [] [.cp 64 (.c (.bool false))] .nil) (.ret [(.bool, [(.k 64)])])) (.ins (.grp [] [.cp 64 (.c (.bool true))] .nil) (.ret [(.bool, [(.k 64)])]))))))))]
noncomputable def c_laws_eqFact : List Lf.Fn := [n_laws_eqIntS]
noncomputable def f_laws_eqFact : (Int × (List Int)) → (Int × (List Int)) → Option (Bool) := tyd [tPILI, tPILI] [.bool] (fnD (DOf c_laws_eqFact) s_laws_eqFact a_laws_eqFact.L b_laws_eqFact)
noncomputable def n_laws_eqFact : Lf.Fn := ⟨s_laws_eqFact, [tPILI, tPILI], [.bool], f_laws_eqFact⟩
theorem k_laws_eqFact : compFn Try.prog (sigsOf c_laws_eqFact) s_laws_eqFact a_laws_eqFact = some b_laws_eqFact := by kernel_rfl
theorem g_laws_eqFact : Lf.Good Try.prog n_laws_eqFact := good_of (by simp only [c_laws_eqFact, List.mem_singleton]; rintro _ rfl; exact g_laws_eqIntS) k_laws_eqFact (by kernel_rfl) ⟨Try.f101, by kernel_rfl, by kernel_rfl, by kernel_rfl⟩ [tPILI, tPILI] [.bool]
theorem f_laws_eqFact_eq (x0 : (Int × (List Int))) (x1 : (Int × (List Int))) : f_laws_eqFact x0 x1 =
    bif (x0.1 != x1.1) then
      some false
    else
      (f_laws_eqIntS x0.2 x1.2).bind fun z1 =>
      bif (!z1) then
        some false
      else
        some true :=
  (show f_laws_eqFact x0 x1 = (Jl (DOf c_laws_eqFact) (irBlk a_laws_eqFact.L b_laws_eqFact) 0 [⟨tI, x0.1⟩, ⟨tLI, x0.2⟩, ⟨tI, x1.1⟩, ⟨tLI, x1.2⟩]).bind (readOuts [.bool]) by kernel_rfl).trans ((Jstep2 (DKOf_eq c_laws_eqFact)).trans (by kernel_rfl))
/- loop.example/g01989/laws.eqFactS -/
def s_laws_eqFactS : Sig := ⟨38, [.v tLPILI, .v tLPILI], [(.bool, [none])]⟩
def a_laws_eqFactS : FAnn := ⟨[⟨[(0, ⟨0, [], .va⟩), (15, ⟨0, [], .pl 1 false⟩), (16, ⟨0, [], .va⟩), (31, ⟨0, [], .pl 1 false⟩)], [0, 16]⟩,
    ⟨[(0, ⟨0, [], .va⟩), (15, ⟨0, [], .pl 1 false⟩), (16, ⟨0, [], .va⟩), (31, ⟨0, [], .pl 1 false⟩), (80, ⟨0, [], .va⟩), (95, ⟨0, [], .pl 1 false⟩)], [0, 16, 80]⟩],
  (.seq (.reg [aT]) (.seq (.seq (.reg [aR, aT, aR, aT, aT]) (.cond none (.seq (.reg [aT]) .none) .none)) (.seq (.seq (.reg [aT]) (.block none (.loop 1 (.seq (.seq (.reg [aR, aR, aT, aT]) (.cond none .none .none)) (.seq (.block none (.seq (.reg [aR, aR, aT, aT, aR, aR, aT, aT, aT, aT]) (.cond none (.seq (.reg [aT]) .none) .none))) (.reg [aR, aT, aT])))))) (.seq (.reg [aT]) .none)))),
  []⟩
def b_laws_eqFactS : List (Nat × Tree) := [(0, (.ins (.grp [] [.cp 64 (.c (.bool false))] .nil) (.ins (.grp [] [.cp 96 (.k 0)] (.grp [] [.len false 112 (.k 96)] (.grp [] [.cp 128 (.k 16)] (.grp [] [.len false 144 (.k 128)] (.grp [] [.bin .neq 160 (.k 112) (.k 144)] .nil))))) (.ite (.k 160) (.ins (.grp [] [.cp 64 (.c (.bool false))] .nil) (.ret [(.bool, [(.k 64)])])) (.ins (.grp [] [.cp 80 (.c (.int .i64 (0)))] .nil) (.jump 1 [0, 16, 80])))))),
  (1, (.ins (.grp [] [.cp 176 (.k 80)] (.grp [] [.cp 192 (.k 0)] (.grp [] [.len false 208 (.k 192)] (.grp [] [.bin .lss 224 (.k 176) (.k 208)] .nil)))) (.ite (.k 224) (.ins (.grp [] [.cp 272 (.k 0)] (.grp [] [.cp 288 (.k 80)] (.grp [] [.idx (some tPILI) [304, 305] 0 (.k 272) (.k 288)] (.grp [] [.cp 320 (.k 304), .cp 321 (.k 305)] (.grp [] [.cp 336 (.k 16)] (.grp [] [.cp 352 (.k 80)] (.grp [] [.idx (some tPILI) [368, 369] 0 (.k 336) (.k 352)] (.grp [] [.cp 384 (.k 368), .cp 385 (.k 369)] (.grp [] [.call 0 [(tPILI, [(.k 320), (.k 321)]), (tPILI, [(.k 384), (.k 385)])] [[400]]] (.grp [] [.not 416 (.k 400)] .nil)))))))))) (.ite (.k 416) (.ins (.grp [] [.cp 64 (.c (.bool false))] .nil) (.ret [(.bool, [(.k 64)])])) (.ins (.grp [] [.cp 240 (.k 80)] (.grp [] [.bin .add 256 (.k 240) (.c (.int .i64 (1)))] (.grp [] [.cp 80 (.k 256)] .nil))) (.jump 1 [0, 16, 80])))) (.ins (.grp [] [.cp 64 (.c (.bool true))] .nil) (.ret [(.bool, [(.k 64)])])))))]
noncomputable def c_laws_eqFactS : List Lf.Fn := [n_laws_eqFact]
noncomputable def f_laws_eqFactS : (List (Int × (List Int))) → (List (Int × (List Int))) → Option (Bool) := tyd [tLPILI, tLPILI] [.bool] (fnD (DOf c_laws_eqFactS) s_laws_eqFactS a_laws_eqFactS.L b_laws_eqFactS)
noncomputable def n_laws_eqFactS : Lf.Fn := ⟨s_laws_eqFactS, [tLPILI, tLPILI], [.bool], f_laws_eqFactS⟩
noncomputable def l1_laws_eqFactS (v0 : (List (Int × (List Int)))) (v16 : (List (Int × (List Int)))) (v80 : Int) : Option (Bool) := (Jl (DOf c_laws_eqFactS) (irBlk a_laws_eqFactS.L b_laws_eqFactS) 1 [⟨tLPILI, v0⟩, ⟨tLPILI, v16⟩, ⟨tI, v80⟩]).bind (readOuts [.bool])
theorem k_laws_eqFactS : compFn Try.prog (sigsOf c_laws_eqFactS) s_laws_eqFactS a_laws_eqFactS = some b_laws_eqFactS := by kernel_rfl
theorem g_laws_eqFactS : Lf.Good Try.prog n_laws_eqFactS := good_of (by simp only [c_laws_eqFactS, List.mem_singleton]; rintro _ rfl; exact g_laws_eqFact) k_laws_eqFactS (by kernel_rfl) ⟨Try.f38, by kernel_rfl, by kernel_rfl, by kernel_rfl⟩ [tLPILI, tLPILI] [.bool]
theorem f_laws_eqFactS_eq (x0 : (List (Int × (List Int)))) (x1 : (List (Int × (List Int)))) : f_laws_eqFactS x0 x1 =
    bif ((x0.length : Int) != (x1.length : Int)) then
      some false
    else
      l1_laws_eqFactS x0 x1 (0 : Int) :=
  (show f_laws_eqFactS x0 x1 = (Jl (DOf c_laws_eqFactS) (irBlk a_laws_eqFactS.L b_laws_eqFactS) 0 [⟨tLPILI, x0⟩, ⟨tLPILI, x1⟩]).bind (readOuts [.bool]) by kernel_rfl).trans ((Jstep2 (DKOf_eq c_laws_eqFactS)).trans (by kernel_rfl))
theorem l1_laws_eqFactS_eq (v0 : (List (Int × (List Int)))) (v16 : (List (Int × (List Int)))) (v80 : Int) : l1_laws_eqFactS v0 v16 v80 =
    bif (decide (v80 < (v0.length : Int))) then
      (at? v0 v80).bind fun z1 =>
      (at? v16 v80).bind fun z2 =>
      (f_laws_eqFact z1 z2).bind fun z3 =>
      bif (!z3) then
        some false
      else
        l1_laws_eqFactS v0 v16 (IntKind.wrap .i64 (v80 + (1 : Int)))
    else
      some true :=
  (show l1_laws_eqFactS v0 v16 v80 = (Jl (DOf c_laws_eqFactS) (irBlk a_laws_eqFactS.L b_laws_eqFactS) 1 [⟨tLPILI, v0⟩, ⟨tLPILI, v16⟩, ⟨tI, v80⟩]).bind (readOuts [.bool]) by kernel_rfl).trans ((Jstep2 (DKOf_eq c_laws_eqFactS)).trans (by kernel_rfl))
/- loop.example/g01989/laws.eqStored -/
def s_laws_eqStored : Sig := ⟨148, [.v tPPILIPLPILII, .v tPPILIPLPILII], [(.bool, [none])]⟩
def a_laws_eqStored : FAnn := ⟨[⟨[(0, ⟨0, [], .va⟩), (1, ⟨0, [], .va⟩), (2, ⟨0, [], .va⟩), (3, ⟨0, [], .va⟩), (15, ⟨0, [], .pl 4 true⟩), (16, ⟨0, [], .va⟩), (17, ⟨0, [], .va⟩), (18, ⟨0, [], .va⟩), (19, ⟨0, [], .va⟩), (31, ⟨0, [], .pl 4 true⟩)], [0, 1, 2, 3, 16, 17, 18, 19]⟩],
  (.seq (.reg [aT, aT, aT]) (.seq (.seq (.reg [aT, aT, aT, aT, aT, aT]) (.cond none (.seq (.reg [aT]) .none) .none)) (.seq (.seq (.reg [aT, aT, aT, aT, ⟨.take, 1, []⟩, aT]) (.cond none (.seq (.reg [aT]) .none) .none)) (.seq (.seq (.reg [aT, aT, aT, aT, aT]) (.cond none (.seq (.reg [aT]) .none) .none)) (.seq (.reg [aT]) .none))))),
  []⟩
def b_laws_eqStored : List (Nat × Tree) := [(0, (.ins (.grp [] [.cp 32 (.k 0), .cp 33 (.k 1), .cp 34 (.k 2), .cp 35 (.k 3)] (.grp [] [.cp 48 (.k 16), .cp 49 (.k 17), .cp 50 (.k 18), .cp 51 (.k 19)] (.grp [] [.cp 64 (.c (.bool false))] .nil))) (.ins (.grp [] [.cp 96 (.k 32), .cp 97 (.k 33)] (.grp [] [.cp 128 (.k 48), .cp 129 (.k 49)] (.grp [] [.call 0 [(tPILI, [(.k 96), (.k 97)]), (tPILI, [(.k 128), (.k 129)])] [[144]]] (.grp [] [.not 160 (.k 144)] .nil)))) (.ite (.k 160) (.ins (.grp [] [.cp 64 (.c (.bool false))] .nil) (.ret [(.bool, [(.k 64)])])) (.ins (.grp [] [.cp 192 (.k 34)] (.grp [] [.cp 224 (.k 50)] (.grp [] [.call 1 [(tLPILI, [(.k 192)]), (tLPILI, [(.k 224)])] [[240]]] (.grp [] [.not 256 (.k 240)] .nil)))) (.ite (.k 256) (.ins (.grp [] [.cp 64 (.c (.bool false))] .nil) (.ret [(.bool, [(.k 64)])])) (.ins (.grp [] [.cp 288 (.k 35)] (.grp [] [.cp 320 (.k 51)] (.grp [] [.bin .neq 336 (.k 288) (.k 320)] .nil))) (.ite (.k 336) (.ins (.grp [] [.cp 64 (.c (.bool false))] .nil) (.ret [(.bool, [(.k 64)])])) (.ins (.grp [] [.cp 64 (.c (.bool true))] .nil) (.ret [(.bool, [(.k 64)])]))))))))))]
noncomputable def c_laws_eqStored : List Lf.Fn := [n_laws_eqAccess, n_laws_eqFactS]
noncomputable def f_laws_eqStored : ((Int × (List Int)) × ((List (Int × (List Int))) × Int)) → ((Int × (List Int)) × ((List (Int × (List Int))) × Int)) → Option (Bool) := tyd [tPPILIPLPILII, tPPILIPLPILII] [.bool] (fnD (DOf c_laws_eqStored) s_laws_eqStored a_laws_eqStored.L b_laws_eqStored)
noncomputable def n_laws_eqStored : Lf.Fn := ⟨s_laws_eqStored, [tPPILIPLPILII, tPPILIPLPILII], [.bool], f_laws_eqStored⟩
theorem k_laws_eqStored : compFn Try.prog (sigsOf c_laws_eqStored) s_laws_eqStored a_laws_eqStored = some b_laws_eqStored := by kernel_rfl
theorem g_laws_eqStored : Lf.Good Try.prog n_laws_eqStored := good_of (by simp only [c_laws_eqStored, List.mem_cons, List.not_mem_nil, or_false]; rintro _ (rfl | rfl); exact g_laws_eqAccess; exact g_laws_eqFactS) k_laws_eqStored (by kernel_rfl) ⟨Try.f148, by kernel_rfl, by kernel_rfl, by kernel_rfl⟩ [tPPILIPLPILII, tPPILIPLPILII] [.bool]
theorem f_laws_eqStored_eq (x0 : ((Int × (List Int)) × ((List (Int × (List Int))) × Int))) (x1 : ((Int × (List Int)) × ((List (Int × (List Int))) × Int))) : f_laws_eqStored x0 x1 =
    (f_laws_eqAccess x0.1 x1.1).bind fun z1 =>
    bif (!z1) then
      some false
    else
      (f_laws_eqFactS x0.2.1 x1.2.1).bind fun z2 =>
      bif (!z2) then
        some false
      else
        bif (x0.2.2 != x1.2.2) then
          some false
        else
          some true :=
  (show f_laws_eqStored x0 x1 = (Jl (DOf c_laws_eqStored) (irBlk a_laws_eqStored.L b_laws_eqStored) 0 [⟨tI, x0.1.1⟩, ⟨tLI, x0.1.2⟩, ⟨tLPILI, x0.2.1⟩, ⟨tI, x0.2.2⟩, ⟨tI, x1.1.1⟩, ⟨tLI, x1.1.2⟩, ⟨tLPILI, x1.2.1⟩, ⟨tI, x1.2.2⟩]).bind (readOuts [.bool]) by kernel_rfl).trans ((Jstep2 (DKOf_eq c_laws_eqStored)).trans (by kernel_rfl))
/- loop.example/g01989/laws.eqStoredS -/
def s_laws_eqStoredS : Sig := ⟨83, [.v tL8780a, .v tL8780a], [(.bool, [none])]⟩
def a_laws_eqStoredS : FAnn := ⟨[⟨[(0, ⟨0, [], .va⟩), (15, ⟨0, [], .pl 1 false⟩), (16, ⟨0, [], .va⟩), (31, ⟨0, [], .pl 1 false⟩)], [0, 16]⟩,
    ⟨[(0, ⟨0, [], .va⟩), (15, ⟨0, [], .pl 1 false⟩), (16, ⟨0, [], .va⟩), (31, ⟨0, [], .pl 1 false⟩), (80, ⟨0, [], .va⟩), (95, ⟨0, [], .pl 1 false⟩)], [0, 16, 80]⟩],
  (.seq (.reg [aT]) (.seq (.seq (.reg [aR, aT, aR, aT, aT]) (.cond none (.seq (.reg [aT]) .none) .none)) (.seq (.seq (.reg [aT]) (.block none (.loop 1 (.seq (.seq (.reg [aR, aR, aT, aT]) (.cond none .none .none)) (.seq (.block none (.seq (.reg [aR, aR, aT, aT, aR, aR, aT, aT, aT, aT]) (.cond none (.seq (.reg [aT]) .none) .none))) (.reg [aR, aT, aT])))))) (.seq (.reg [aT]) .none)))),
  []⟩
def b_laws_eqStoredS : List (Nat × Tree) := [(0, (.ins (.grp [] [.cp 64 (.c (.bool false))] .nil) (.ins (.grp [] [.cp 96 (.k 0)] (.grp [] [.len false 112 (.k 96)] (.grp [] [.cp 128 (.k 16)] (.grp [] [.len false 144 (.k 128)] (.grp [] [.bin .neq 160 (.k 112) (.k 144)] .nil))))) (.ite (.k 160) (.ins (.grp [] [.cp 64 (.c (.bool false))] .nil) (.ret [(.bool, [(.k 64)])])) (.ins (.grp [] [.cp 80 (.c (.int .i64 (0)))] .nil) (.jump 1 [0, 16, 80])))))),
  (1, (.ins (.grp [] [.cp 176 (.k 80)] (.grp [] [.cp 192 (.k 0)] (.grp [] [.len false 208 (.k 192)] (.grp [] [.bin .lss 224 (.k 176) (.k 208)] .nil)))) (.ite (.k 224) (.ins (.grp [] [.cp 272 (.k 0)] (.grp [] [.cp 288 (.k 80)] (.grp [] [.idx (some tPPILIPLPILII) [304, 305, 306, 307] 0 (.k 272) (.k 288)] (.grp [] [.cp 320 (.k 304), .cp 321 (.k 305), .cp 322 (.k 306), .cp 323 (.k 307)] (.grp [] [.cp 336 (.k 16)] (.grp [] [.cp 352 (.k 80)] (.grp [] [.idx (some tPPILIPLPILII) [368, 369, 370, 371] 0 (.k 336) (.k 352)] (.grp [] [.cp 384 (.k 368), .cp 385 (.k 369), .cp 386 (.k 370), .cp 387 (.k 371)] (.grp [] [.call 0 [(tPPILIPLPILII, [(.k 320), (.k 321), (.k 322), (.k 323)]), (tPPILIPLPILII, [(.k 384), (.k 385), (.k 386), (.k 387)])] [[400]]] (.grp [] [.not 416 (.k 400)] .nil)))))))))) (.ite (.k 416) (.ins (.grp [] [.cp 64 (.c (.bool false))] .nil) (.ret [(.bool, [(.k 64)])])) (.ins (.grp [] [.cp 240 (.k 80)] (.grp [] [.bin .add 256 (.k 240) (.c (.int .i64 (1)))] (.grp [] [.cp 80 (.k 256)] .nil))) (.jump 1 [0, 16, 80])))) (.ins (.grp [] [.cp 64 (.c (.bool true))] .nil) (.ret [(.bool, [(.k 64)])])))))]
noncomputable def c_laws_eqStoredS : List Lf.Fn := [n_laws_eqStored]
noncomputable def f_laws_eqStoredS : (List ((Int × (List Int)) × ((List (Int × (List Int))) × Int))) → (List ((Int × (List Int)) × ((List (Int × (List Int))) × Int))) → Option (Bool) := tyd [tL8780a, tL8780a] [.bool] (fnD (DOf c_laws_eqStoredS) s_laws_eqStoredS a_laws_eqStoredS.L b_laws_eqStoredS)
noncomputable def n_laws_eqStoredS : Lf.Fn := ⟨s_laws_eqStoredS, [tL8780a, tL8780a], [.bool], f_laws_eqStoredS⟩
noncomputable def l1_laws_eqStoredS (v0 : (List ((Int × (List Int)) × ((List (Int × (List Int))) × Int)))) (v16 : (List ((Int × (List Int)) × ((List (Int × (List Int))) × Int)))) (v80 : Int) : Option (Bool) := (Jl (DOf c_laws_eqStoredS) (irBlk a_laws_eqStoredS.L b_laws_eqStoredS) 1 [⟨tL8780a, v0⟩, ⟨tL8780a, v16⟩, ⟨tI, v80⟩]).bind (readOuts [.bool])
theorem k_laws_eqStoredS : compFn Try.prog (sigsOf c_laws_eqStoredS) s_laws_eqStoredS a_laws_eqStoredS = some b_laws_eqStoredS := by kernel_rfl
theorem g_laws_eqStoredS : Lf.Good Try.prog n_laws_eqStoredS := good_of (by simp only [c_laws_eqStoredS, List.mem_singleton]; rintro _ rfl; exact g_laws_eqStored) k_laws_eqStoredS (by kernel_rfl) ⟨Try.f83, by kernel_rfl, by kernel_rfl, by kernel_rfl⟩ [tL8780a, tL8780a] [.bool]
theorem f_laws_eqStoredS_eq (x0 : (List ((Int × (List Int)) × ((List (Int × (List Int))) × Int)))) (x1 : (List ((Int × (List Int)) × ((List (Int × (List Int))) × Int)))) : f_laws_eqStoredS x0 x1 =
    bif ((x0.length : Int) != (x1.length : Int)) then
      some false
    else
      l1_laws_eqStoredS x0 x1 (0 : Int) :=
  (show f_laws_eqStoredS x0 x1 = (Jl (DOf c_laws_eqStoredS) (irBlk a_laws_eqStoredS.L b_laws_eqStoredS) 0 [⟨tL8780a, x0⟩, ⟨tL8780a, x1⟩]).bind (readOuts [.bool]) by kernel_rfl).trans ((Jstep2 (DKOf_eq c_laws_eqStoredS)).trans (by kernel_rfl))
theorem l1_laws_eqStoredS_eq (v0 : (List ((Int × (List Int)) × ((List (Int × (List Int))) × Int)))) (v16 : (List ((Int × (List Int)) × ((List (Int × (List Int))) × Int)))) (v80 : Int) : l1_laws_eqStoredS v0 v16 v80 =
    bif (decide (v80 < (v0.length : Int))) then
      (at? v0 v80).bind fun z1 =>
      (at? v16 v80).bind fun z2 =>
      (f_laws_eqStored z1 z2).bind fun z3 =>
      bif (!z3) then
        some false
      else
        l1_laws_eqStoredS v0 v16 (IntKind.wrap .i64 (v80 + (1 : Int)))
    else
      some true :=
  (show l1_laws_eqStoredS v0 v16 v80 = (Jl (DOf c_laws_eqStoredS) (irBlk a_laws_eqStoredS.L b_laws_eqStoredS) 1 [⟨tL8780a, v0⟩, ⟨tL8780a, v16⟩, ⟨tI, v80⟩]).bind (readOuts [.bool]) by kernel_rfl).trans ((Jstep2 (DKOf_eq c_laws_eqStoredS)).trans (by kernel_rfl))
/- loop.example/g01989/laws.eqCache -/
def s_laws_eqCache : Sig := ⟨21, [.v tP4d7df, .v tP4d7df], [(.bool, [none])]⟩
def a_laws_eqCache : FAnn := ⟨[⟨[(0, ⟨0, [], .va⟩), (1, ⟨0, [], .va⟩), (15, ⟨0, [], .pl 2 true⟩), (16, ⟨0, [], .va⟩), (17, ⟨0, [], .va⟩), (31, ⟨0, [], .pl 2 true⟩)], [0, 1, 16, 17]⟩],
  (.seq (.reg [aT, aT, aT]) (.seq (.seq (.reg [aT, aT, aT, aT, aT, aT]) (.cond none (.seq (.reg [aT]) .none) .none)) (.seq (.seq (.reg [aT, aT, aT, aT, aT]) (.cond none (.seq (.reg [aT]) .none) .none)) (.seq (.reg [aT]) .none)))),
  []⟩
def b_laws_eqCache : List (Nat × Tree) := [(0, (.ins (.grp [] [.cp 32 (.k 0), .cp 33 (.k 1)] (.grp [] [.cp 48 (.k 16), .cp 49 (.k 17)] (.grp [] [.cp 64 (.c (.bool false))] .nil))) (.ins (.grp [] [.cp 96 (.k 32)] (.grp [] [.cp 128 (.k 48)] (.grp [] [.call 0 [(tL8780a, [(.k 96)]), (tL8780a, [(.k 128)])] [[144]]] (.grp [] [.not 160 (.k 144)] .nil)))) (.ite (.k 160) (.ins (.grp [] [.cp 64 (.c (.bool false))] .nil) (.ret [(.bool, [(.k 64)])])) (.ins (.grp [] [.cp 192 (.k 33)] (.grp [] [.cp 224 (.k 49)] (.grp [] [.bin .neq 240 (.k 192) (.k 224)] .nil))) (.ite (.k 240) (.ins (.grp [] [.cp 64 (.c (.bool false))] .nil) (.ret [(.bool, [(.k 64)])])) (.ins (.grp [] [.cp 64 (.c (.bool true))] .nil) (.ret [(.bool, [(.k 64)])]))))))))]
noncomputable def c_laws_eqCache : List Lf.Fn := [n_laws_eqStoredS]
noncomputable def f_laws_eqCache : ((List ((Int × (List Int)) × ((List (Int × (List Int))) × Int))) × Int) → ((List ((Int × (List Int)) × ((List (Int × (List Int))) × Int))) × Int) → Option (Bool) := tyd [tP4d7df, tP4d7df] [.bool] (fnD (DOf c_laws_eqCache) s_laws_eqCache a_laws_eqCache.L b_laws_eqCache)
noncomputable def n_laws_eqCache : Lf.Fn := ⟨s_laws_eqCache, [tP4d7df, tP4d7df], [.bool], f_laws_eqCache⟩
theorem k_laws_eqCache : compFn Try.prog (sigsOf c_laws_eqCache) s_laws_eqCache a_laws_eqCache = some b_laws_eqCache := by kernel_rfl
theorem g_laws_eqCache : Lf.Good Try.prog n_laws_eqCache := good_of (by simp only [c_laws_eqCache, List.mem_singleton]; rintro _ rfl; exact g_laws_eqStoredS) k_laws_eqCache (by kernel_rfl) ⟨Try.f21, by kernel_rfl, by kernel_rfl, by kernel_rfl⟩ [tP4d7df, tP4d7df] [.bool]
theorem f_laws_eqCache_eq (x0 : ((List ((Int × (List Int)) × ((List (Int × (List Int))) × Int))) × Int)) (x1 : ((List ((Int × (List Int)) × ((List (Int × (List Int))) × Int))) × Int)) : f_laws_eqCache x0 x1 =
    (f_laws_eqStoredS x0.1 x1.1).bind fun z1 =>
    bif (!z1) then
      some false
    else
      bif (x0.2 != x1.2) then
        some false
      else
        some true :=
  (show f_laws_eqCache x0 x1 = (Jl (DOf c_laws_eqCache) (irBlk a_laws_eqCache.L b_laws_eqCache) 0 [⟨tL8780a, x0.1⟩, ⟨tI, x0.2⟩, ⟨tL8780a, x1.1⟩, ⟨tI, x1.2⟩]).bind (readOuts [.bool]) by kernel_rfl).trans ((Jstep2 (DKOf_eq c_laws_eqCache)).trans (by kernel_rfl))
/- loop.example/g01989/laws.FnExactFindStored -/
def s_laws_FnExactFindStored : Sig := ⟨3, [.v tP4d7df, .v tPILI], [(.bool, [none])]⟩
def a_laws_FnExactFindStored : FAnn := ⟨[⟨[(0, ⟨0, [], .va⟩), (1, ⟨0, [], .va⟩), (15, ⟨0, [], .pl 2 true⟩), (16, ⟨0, [], .va⟩), (17, ⟨0, [], .va⟩), (31, ⟨0, [], .pl 2 true⟩)], [0, 1, 16, 17]⟩],
  (.seq (.reg [aT, aT, aT]) (.seq (.reg [aT]) (.seq (.reg [aT, aR, aT, aT]) (.seq (.seq (.reg [aR, aT]) (.cond none (.seq (.reg [aT]) .none) .none)) (.seq (.reg [aT, aR, ⟨.take, 1, []⟩, aT]) (.seq (.seq (.reg [aR, aT]) (.cond none (.seq (.reg [aT]) .none) .none)) (.seq (.reg [aT, ⟨.take, 2, []⟩, aT, ⟨.take, 3, []⟩, ⟨.take, 4, []⟩, aT]) (.seq (.reg [aT, ⟨.take, 2, []⟩, aT, aT]) (.seq (.reg [aT, ⟨.take, 3, []⟩, aT, aT]) (.seq (.reg [aT, aT, ⟨.take, 5, []⟩, aT]) (.seq (.seq (.reg [aR, aR, aT]) (.cond none (.seq (.reg [aT]) .none) .none)) (.seq (.seq (.reg [aT, aT, ⟨.take, 2, []⟩, ⟨.take, 6, []⟩, aT]) (.cond none (.seq (.reg [aT]) .none) .none)) (.seq (.seq (.reg [aT, aT, ⟨.take, 3, []⟩, ⟨.take, 7, []⟩, aT]) (.cond none (.seq (.reg [aT]) .none) .none)) (.seq (.reg [aT]) .none)))))))))))))),
  []⟩
def b_laws_FnExactFindStored : List (Nat × Tree) := [(0, (.ins (.grp [] [.cp 32 (.k 0), .cp 33 (.k 1)] (.grp [] [.cp 48 (.k 16), .cp 49 (.k 17)] (.grp [] [.cp 64 (.c (.bool false))] .nil))) (.ins (.grp [] [.cp 80 (.c (.int .i64 (1048576)))] .nil) (.ins (.grp [] [.cp 160 (.k 32), .cp 161 (.k 33)] (.grp [] [.cp 176 (.k 80)] (.grp [] [.call 0 [(tP4d7df, [(.k 160), (.k 161)]), (tI, [(.k 176)])] [[192]]] (.grp [] [.cp 80 (.k 192)] .nil)))) (.ins (.grp [] [.cp 208 (.k 80)] (.grp [] [.bin .lss 224 (.k 208) (.c (.int .i64 (0)))] .nil)) (.ite (.k 224) (.ins (.grp [] [.cp 64 (.c (.bool true))] .nil) (.ret [(.bool, [(.k 64)])])) (.ins (.grp [] [.cp 240 (.k 48), .cp 241 (.k 49)] (.grp [] [.cp 256 (.k 80)] (.grp [] [.call 1 [(tPILI, [(.k 240), (.k 241)]), (tI, [(.k 256)])] [[272]]] (.grp [] [.cp 80 (.k 272)] .nil)))) (.ins (.grp [] [.cp 288 (.k 80)] (.grp [] [.bin .lss 304 (.k 288) (.c (.int .i64 (0)))] .nil)) (.ite (.k 304) (.ins (.grp [] [.cp 64 (.c (.bool true))] .nil) (.ret [(.bool, [(.k 64)])])) (.ins (.grp [] [.cp 320 (.k 32), .cp 321 (.k 33)] (.grp [] [.call 2 [(tP4d7df, [(.k 320), (.k 321)])] [[336, 337]]] (.grp [] [.cp 352 (.k 48), .cp 353 (.k 49)] (.grp [] [.call 3 [(tPILI, [(.k 352), (.k 353)])] [[368, 369]]] (.grp [] [.call 4 [(tP4d7df, [(.k 336), (.k 337)]), (tPILI, [(.k 368), (.k 369)])] [[384]]] (.grp [] [.cp 96 (.k 384)] .nil)))))) (.ins (.grp [] [.cp 400 (.k 32), .cp 401 (.k 33)] (.grp [] [.call 2 [(tP4d7df, [(.k 400), (.k 401)])] [[416, 417]]] (.grp [] [.cp 112 (.c (.nil tPPILIPLPILII)), .cp 113 (.c (.int .i64 (0)))] (.grp [] [.cp 112 (.k 416), .cp 113 (.k 417)] .nil)))) (.ins (.grp [] [.cp 432 (.k 48), .cp 433 (.k 49)] (.grp [] [.call 3 [(tPILI, [(.k 432), (.k 433)])] [[448, 449]]] (.grp [] [.cp 128 (.c (.int .i64 (0))), .cp 129 (.c (.nil tI))] (.grp [] [.cp 128 (.k 448), .cp 129 (.k 449)] .nil)))) (.ins (.grp [] [.cp 464 (.k 112), .cp 465 (.k 113)] (.grp [] [.cp 480 (.k 128), .cp 481 (.k 129)] (.grp [] [.call 5 [(tP4d7df, [(.k 464), (.k 465)]), (tPILI, [(.k 480), (.k 481)])] [[496]]] (.grp [] [.cp 144 (.k 496)] .nil)))) (.ins (.grp [] [.cp 512 (.k 144)] (.grp [] [.cp 528 (.k 96)] (.grp [] [.bin .neq 544 (.k 512) (.k 528)] .nil))) (.ite (.k 544) (.ins (.grp [] [.cp 64 (.c (.bool false))] .nil) (.ret [(.bool, [(.k 64)])])) (.ins (.grp [] [.cp 560 (.k 112), .cp 561 (.k 113)] (.grp [] [.cp 576 (.k 32), .cp 577 (.k 33)] (.grp [] [.call 2 [(tP4d7df, [(.k 576), (.k 577)])] [[592, 593]]] (.grp [] [.call 6 [(tP4d7df, [(.k 560), (.k 561)]), (tP4d7df, [(.k 592), (.k 593)])] [[608]]] (.grp [] [.not 624 (.k 608)] .nil))))) (.ite (.k 624) (.ins (.grp [] [.cp 64 (.c (.bool false))] .nil) (.ret [(.bool, [(.k 64)])])) (.ins (.grp [] [.cp 640 (.k 128), .cp 641 (.k 129)] (.grp [] [.cp 656 (.k 48), .cp 657 (.k 49)] (.grp [] [.call 3 [(tPILI, [(.k 656), (.k 657)])] [[672, 673]]] (.grp [] [.call 7 [(tPILI, [(.k 640), (.k 641)]), (tPILI, [(.k 672), (.k 673)])] [[688]]] (.grp [] [.not 704 (.k 688)] .nil))))) (.ite (.k 704) (.ins (.grp [] [.cp 64 (.c (.bool false))] .nil) (.ret [(.bool, [(.k 64)])])) (.ins (.grp [] [.cp 64 (.c (.bool true))] .nil) (.ret [(.bool, [(.k 64)])])))))))))))))))))))))]
noncomputable def c_laws_FnExactFindStored : List Lf.Fn := [n_laws_szCache, n_laws_szAccess, n_laws_toCache, n_laws_toAccess, n_spec_FindStored, n_impl_FindStored, n_laws_eqCache, n_laws_eqAccess]
noncomputable def f_laws_FnExactFindStored : ((List ((Int × (List Int)) × ((List (Int × (List Int))) × Int))) × Int) → (Int × (List Int)) → Option (Bool) := tyd [tP4d7df, tPILI] [.bool] (fnD (DOf c_laws_FnExactFindStored) s_laws_FnExactFindStored a_laws_FnExactFindStored.L b_laws_FnExactFindStored)
noncomputable def n_laws_FnExactFindStored : Lf.Fn := ⟨s_laws_FnExactFindStored, [tP4d7df, tPILI], [.bool], f_laws_FnExactFindStored⟩
theorem k_laws_FnExactFindStored : compFn Try.prog (sigsOf c_laws_FnExactFindStored) s_laws_FnExactFindStored a_laws_FnExactFindStored = some b_laws_FnExactFindStored := by kernel_rfl
theorem g_laws_FnExactFindStored : Lf.Good Try.prog n_laws_FnExactFindStored := good_of (by simp only [c_laws_FnExactFindStored, List.mem_cons, List.not_mem_nil, or_false]; rintro _ (rfl | rfl | rfl | rfl | rfl | rfl | rfl | rfl); exact g_laws_szCache; exact g_laws_szAccess; exact g_laws_toCache; exact g_laws_toAccess; exact g_spec_FindStored; exact g_impl_FindStored; exact g_laws_eqCache; exact g_laws_eqAccess) k_laws_FnExactFindStored (by kernel_rfl) ⟨Try.f3, by kernel_rfl, by kernel_rfl, by kernel_rfl⟩ [tP4d7df, tPILI] [.bool]
theorem f_laws_FnExactFindStored_eq (x0 : ((List ((Int × (List Int)) × ((List (Int × (List Int))) × Int))) × Int)) (x1 : (Int × (List Int))) : f_laws_FnExactFindStored x0 x1 =
    (f_laws_szCache x0 (1048576 : Int)).bind fun z1 =>
    bif (decide (z1 < (0 : Int))) then
      some true
    else
      (f_laws_szAccess x1 z1).bind fun z2 =>
      bif (decide (z2 < (0 : Int))) then
        some true
      else
        (f_laws_toCache x0).bind fun z3 =>
        (f_laws_toAccess x1).bind fun z4 =>
        (f_spec_FindStored z3 z4).bind fun z5 =>
        (f_laws_toCache x0).bind fun z6 =>
        (f_laws_toAccess x1).bind fun z7 =>
        (f_impl_FindStored z6 z7).bind fun z8 =>
        bif (z8 != z5) then
          some false
        else
          (f_laws_toCache x0).bind fun z9 =>
          (f_laws_eqCache z6 z9).bind fun z10 =>
          bif (!z10) then
            some false
          else
            (f_laws_toAccess x1).bind fun z11 =>
            (f_laws_eqAccess z7 z11).bind fun z12 =>
            bif (!z12) then
              some false
            else
              some true :=
  (show f_laws_FnExactFindStored x0 x1 = (Jl (DOf c_laws_FnExactFindStored) (irBlk a_laws_FnExactFindStored.L b_laws_FnExactFindStored) 0 [⟨tL8780a, x0.1⟩, ⟨tI, x0.2⟩, ⟨tI, x1.1⟩, ⟨tLI, x1.2⟩]).bind (readOuts [.bool]) by kernel_rfl).trans ((Jstep2 (DKOf_eq c_laws_FnExactFindStored)).trans (by kernel_rfl))
end Go.Proofs.Ytjffopklnampaaa
