/- The functions that FnExactIsExistential reaches, as functions of data, and their texts, part 1 of 1. -/
import Derived.Test.YtjffopklnampaaaLd
import Derived.KernelRfl
import Derived.Test.YtjffopklnampaaaProg
set_option linter.unusedVariables false
set_option linter.unusedSimpArgs false
namespace Go.Proofs.Ytjffopklnampaaa
open Go.Lf
def aT : Ann := ⟨.take, 0, []⟩
def aR : Ann := ⟨.ref, 0, []⟩
def tI : Ty := .int .i64
def tLI : Ty := .slice tI
def tPII : Ty := .pair tI tI
def tPIPII : Ty := .pair tI tPII
def tPLIPIPII : Ty := .pair tLI tPIPII
def tPIPLIPIPII : Ty := .pair tI tPLIPIPII
def tLPIPLIPIPII : Ty := .slice tPIPLIPIPII
def tPILI : Ty := .pair tI tLI
def tLPILI : Ty := .slice tPILI
def tPLILPILI : Ty := .pair tLI tLPILI
def m42d08 : M := .sl .own .sc
def m4163c : M := .pair .sc .sc
def mb0748 : M := .pair .sc m4163c
def m51138 : M := .pair m42d08 mb0748
def m46dba : M := .pair .sc m51138
def mca4df : M := .pair .sc m42d08
/- loop.example/g01989/laws.szIntS -/
def s_laws_szIntS : Sig := ⟨77, [.v tLI, .v tI], [(tI, [none])]⟩
def a_laws_szIntS : FAnn := ⟨[⟨[(0, ⟨0, [], .va⟩), (15, ⟨0, [], .pl 1 false⟩), (16, ⟨0, [], .va⟩), (31, ⟨0, [], .pl 1 false⟩)], [0, 16]⟩],
  (.seq (.reg [aT]) (.seq (.reg [aR, aR, aT, aT, aT]) (.seq (.seq (.reg [aR, aT]) (.cond none (.seq (.reg [aT]) .none) .none)) (.seq (.reg [aR, aT]) .none)))),
  []⟩
def b_laws_szIntS : List (Nat × Tree) := [(0, (.ins (.grp [] [.cp 64 (.c (.int .i64 (0)))] .nil) (.ins (.grp [] [.cp 80 (.k 16)] (.grp [] [.cp 96 (.k 0)] (.grp [] [.len false 112 (.k 96)] (.grp [] [.bin .sub 128 (.k 80) (.k 112)] (.grp [] [.cp 16 (.k 128)] .nil))))) (.ins (.grp [] [.cp 144 (.k 16)] (.grp [] [.bin .lss 160 (.k 144) (.c (.int .i64 (0)))] .nil)) (.ite (.k 160) (.ins (.grp [] [.cp 64 (.c (.int .i64 (-1)))] .nil) (.ret [(tI, [(.k 64)])])) (.ins (.grp [] [.cp 176 (.k 16)] (.grp [] [.cp 64 (.k 176)] .nil)) (.ret [(tI, [(.k 64)])])))))))]
noncomputable def c_laws_szIntS : List Lf.Fn := []
noncomputable def f_laws_szIntS : (List Int) → Int → Option (Int) := tyd [tLI, tI] [tI] (fnD (DOf c_laws_szIntS) s_laws_szIntS a_laws_szIntS.L b_laws_szIntS)
noncomputable def n_laws_szIntS : Lf.Fn := ⟨s_laws_szIntS, [tLI, tI], [tI], f_laws_szIntS⟩
theorem k_laws_szIntS : compFn Try.prog (sigsOf c_laws_szIntS) s_laws_szIntS a_laws_szIntS = some b_laws_szIntS := by kernel_rfl
theorem g_laws_szIntS : Lf.Good Try.prog n_laws_szIntS := good_of (by intro _ h; simp [c_laws_szIntS] at h) k_laws_szIntS (by kernel_rfl) ⟨Try.f77, by kernel_rfl, by kernel_rfl, by kernel_rfl⟩ [tLI, tI] [tI]
theorem f_laws_szIntS_eq (x0 : (List Int)) (x1 : Int) : f_laws_szIntS x0 x1 =
    bif (decide ((IntKind.wrap .i64 (x1 - (x0.length : Int))) < (0 : Int))) then
      some (-1 : Int)
    else
      some (IntKind.wrap .i64 (x1 - (x0.length : Int))) :=
  (show f_laws_szIntS x0 x1 = (Jl (DOf c_laws_szIntS) (irBlk a_laws_szIntS.L b_laws_szIntS) 0 [⟨tLI, x0⟩, ⟨tI, x1⟩]).bind (readOuts [tI]) by kernel_rfl).trans ((Jstep2 (DKOf_eq c_laws_szIntS)).trans (by kernel_rfl))
/- loop.example/g01989/laws.szMethod -/
def s_laws_szMethod : Sig := ⟨85, [.v tPIPLIPIPII, .v tI], [(tI, [none])]⟩
def a_laws_szMethod : FAnn := ⟨[⟨[(0, ⟨0, [], .va⟩), (1, ⟨0, [], .va⟩), (2, ⟨0, [], .va⟩), (3, ⟨0, [], .va⟩), (4, ⟨0, [], .va⟩), (15, ⟨0, [], .pl 5 true⟩), (16, ⟨0, [], .va⟩), (31, ⟨0, [], .pl 1 false⟩)], [0, 1, 2, 3, 4, 16]⟩],
  (.seq (.reg [aT, aT]) (.seq (.reg [aT, aT, aR, aT, aT]) (.seq (.seq (.reg [aR, aT]) (.cond none (.seq (.reg [aT]) .none) .none)) (.seq (.reg [aR, aT]) .none)))),
  []⟩
def b_laws_szMethod : List (Nat × Tree) := [(0, (.ins (.grp [] [.cp 32 (.k 0), .cp 33 (.k 1), .cp 34 (.k 2), .cp 35 (.k 3), .cp 36 (.k 4)] (.grp [] [.cp 64 (.c (.int .i64 (0)))] .nil)) (.ins (.grp [] [.cp 96 (.k 33)] (.grp [] [.cp 112 (.k 16)] (.grp [] [.call 0 [(tLI, [(.k 96)]), (tI, [(.k 112)])] [[128]]] (.grp [] [.cp 16 (.k 128)] .nil)))) (.ins (.grp [] [.cp 144 (.k 16)] (.grp [] [.bin .lss 160 (.k 144) (.c (.int .i64 (0)))] .nil)) (.ite (.k 160) (.ins (.grp [] [.cp 64 (.c (.int .i64 (-1)))] .nil) (.ret [(tI, [(.k 64)])])) (.ins (.grp [] [.cp 176 (.k 16)] (.grp [] [.cp 64 (.k 176)] .nil)) (.ret [(tI, [(.k 64)])])))))))]
noncomputable def c_laws_szMethod : List Lf.Fn := [n_laws_szIntS]
noncomputable def f_laws_szMethod : (Int × ((List Int) × (Int × (Int × Int)))) → Int → Option (Int) := tyd [tPIPLIPIPII, tI] [tI] (fnD (DOf c_laws_szMethod) s_laws_szMethod a_laws_szMethod.L b_laws_szMethod)
noncomputable def n_laws_szMethod : Lf.Fn := ⟨s_laws_szMethod, [tPIPLIPIPII, tI], [tI], f_laws_szMethod⟩
theorem k_laws_szMethod : compFn Try.prog (sigsOf c_laws_szMethod) s_laws_szMethod a_laws_szMethod = some b_laws_szMethod := by kernel_rfl
theorem g_laws_szMethod : Lf.Good Try.prog n_laws_szMethod := good_of (by simp only [c_laws_szMethod, List.mem_singleton]; rintro _ rfl; exact g_laws_szIntS) k_laws_szMethod (by kernel_rfl) ⟨Try.f85, by kernel_rfl, by kernel_rfl, by kernel_rfl⟩ [tPIPLIPIPII, tI] [tI]
theorem f_laws_szMethod_eq (x0 : (Int × ((List Int) × (Int × (Int × Int))))) (x1 : Int) : f_laws_szMethod x0 x1 =
    (f_laws_szIntS x0.2.1 x1).bind fun z1 =>
    bif (decide (z1 < (0 : Int))) then
      some (-1 : Int)
    else
      some z1 :=
  (show f_laws_szMethod x0 x1 = (Jl (DOf c_laws_szMethod) (irBlk a_laws_szMethod.L b_laws_szMethod) 0 [⟨tI, x0.1⟩, ⟨tLI, x0.2.1⟩, ⟨tI, x0.2.2.1⟩, ⟨tI, x0.2.2.2.1⟩, ⟨tI, x0.2.2.2.2⟩, ⟨tI, x1⟩]).bind (readOuts [tI]) by kernel_rfl).trans ((Jstep2 (DKOf_eq c_laws_szMethod)).trans (by kernel_rfl))
/- loop.example/g01989/laws.szMethodS -/
def s_laws_szMethodS : Sig := ⟨24, [.v tLPIPLIPIPII, .v tI], [(tI, [none])]⟩
def a_laws_szMethodS : FAnn := ⟨[⟨[(0, ⟨0, [], .va⟩), (15, ⟨0, [], .pl 1 false⟩), (16, ⟨0, [], .va⟩), (31, ⟨0, [], .pl 1 false⟩)], [0, 16]⟩,
    ⟨[(0, ⟨0, [], .va⟩), (15, ⟨0, [], .pl 1 false⟩), (16, ⟨0, [], .va⟩), (31, ⟨0, [], .pl 1 false⟩), (80, ⟨0, [], .va⟩), (95, ⟨0, [], .pl 1 false⟩)], [0, 16, 80]⟩],
  (.seq (.reg [aT]) (.seq (.reg [aR, aR, aT, aT, aT]) (.seq (.seq (.reg [aR, aT]) (.cond none (.seq (.reg [aT]) .none) .none)) (.seq (.seq (.reg [aT]) (.block none (.loop 1 (.seq (.seq (.reg [aR, aR, aT, aT]) (.cond none .none .none)) (.seq (.block none (.seq (.reg [aR, aR, aT, aT, aR, aT, aT]) (.seq (.reg [aR, aT]) (.cond none (.seq (.reg [aT]) .none) .none)))) (.reg [aR, aT, aT])))))) (.seq (.reg [aR, aT]) .none))))),
  []⟩
def b_laws_szMethodS : List (Nat × Tree) := [(0, (.ins (.grp [] [.cp 64 (.c (.int .i64 (0)))] .nil) (.ins (.grp [] [.cp 96 (.k 16)] (.grp [] [.cp 112 (.k 0)] (.grp [] [.len false 128 (.k 112)] (.grp [] [.bin .sub 144 (.k 96) (.k 128)] (.grp [] [.cp 16 (.k 144)] .nil))))) (.ins (.grp [] [.cp 160 (.k 16)] (.grp [] [.bin .lss 176 (.k 160) (.c (.int .i64 (0)))] .nil)) (.ite (.k 176) (.ins (.grp [] [.cp 64 (.c (.int .i64 (-1)))] .nil) (.ret [(tI, [(.k 64)])])) (.ins (.grp [] [.cp 80 (.c (.int .i64 (0)))] .nil) (.jump 1 [0, 16, 80]))))))),
  (1, (.ins (.grp [] [.cp 192 (.k 80)] (.grp [] [.cp 208 (.k 0)] (.grp [] [.len false 224 (.k 208)] (.grp [] [.bin .lss 240 (.k 192) (.k 224)] .nil)))) (.ite (.k 240) (.ins (.grp [] [.cp 288 (.k 0)] (.grp [] [.cp 304 (.k 80)] (.grp [] [.idx (some tPIPLIPIPII) [320, 321, 322, 323, 324] 0 (.k 288) (.k 304)] (.grp [] [.cp 336 (.k 320), .cp 337 (.k 321), .cp 338 (.k 322), .cp 339 (.k 323), .cp 340 (.k 324)] (.grp [] [.cp 352 (.k 16)] (.grp [] [.call 0 [(tPIPLIPIPII, [(.k 336), (.k 337), (.k 338), (.k 339), (.k 340)]), (tI, [(.k 352)])] [[368]]] (.grp [] [.cp 16 (.k 368)] .nil))))))) (.ins (.grp [] [.cp 384 (.k 16)] (.grp [] [.bin .lss 400 (.k 384) (.c (.int .i64 (0)))] .nil)) (.ite (.k 400) (.ins (.grp [] [.cp 64 (.c (.int .i64 (-1)))] .nil) (.ret [(tI, [(.k 64)])])) (.ins (.grp [] [.cp 256 (.k 80)] (.grp [] [.bin .add 272 (.k 256) (.c (.int .i64 (1)))] (.grp [] [.cp 80 (.k 272)] .nil))) (.jump 1 [0, 16, 80]))))) (.ins (.grp [] [.cp 416 (.k 16)] (.grp [] [.cp 64 (.k 416)] .nil)) (.ret [(tI, [(.k 64)])])))))]
noncomputable def c_laws_szMethodS : List Lf.Fn := [n_laws_szMethod]
noncomputable def f_laws_szMethodS : (List (Int × ((List Int) × (Int × (Int × Int))))) → Int → Option (Int) := tyd [tLPIPLIPIPII, tI] [tI] (fnD (DOf c_laws_szMethodS) s_laws_szMethodS a_laws_szMethodS.L b_laws_szMethodS)
noncomputable def n_laws_szMethodS : Lf.Fn := ⟨s_laws_szMethodS, [tLPIPLIPIPII, tI], [tI], f_laws_szMethodS⟩
noncomputable def l1_laws_szMethodS (v0 : (List (Int × ((List Int) × (Int × (Int × Int)))))) (v16 : Int) (v80 : Int) : Option (Int) := (Jl (DOf c_laws_szMethodS) (irBlk a_laws_szMethodS.L b_laws_szMethodS) 1 [⟨tLPIPLIPIPII, v0⟩, ⟨tI, v16⟩, ⟨tI, v80⟩]).bind (readOuts [tI])
theorem k_laws_szMethodS : compFn Try.prog (sigsOf c_laws_szMethodS) s_laws_szMethodS a_laws_szMethodS = some b_laws_szMethodS := by kernel_rfl
theorem g_laws_szMethodS : Lf.Good Try.prog n_laws_szMethodS := good_of (by simp only [c_laws_szMethodS, List.mem_singleton]; rintro _ rfl; exact g_laws_szMethod) k_laws_szMethodS (by kernel_rfl) ⟨Try.f24, by kernel_rfl, by kernel_rfl, by kernel_rfl⟩ [tLPIPLIPIPII, tI] [tI]
theorem f_laws_szMethodS_eq (x0 : (List (Int × ((List Int) × (Int × (Int × Int)))))) (x1 : Int) : f_laws_szMethodS x0 x1 =
    bif (decide ((IntKind.wrap .i64 (x1 - (x0.length : Int))) < (0 : Int))) then
      some (-1 : Int)
    else
      l1_laws_szMethodS x0 (IntKind.wrap .i64 (x1 - (x0.length : Int))) (0 : Int) :=
  (show f_laws_szMethodS x0 x1 = (Jl (DOf c_laws_szMethodS) (irBlk a_laws_szMethodS.L b_laws_szMethodS) 0 [⟨tLPIPLIPIPII, x0⟩, ⟨tI, x1⟩]).bind (readOuts [tI]) by kernel_rfl).trans ((Jstep2 (DKOf_eq c_laws_szMethodS)).trans (by kernel_rfl))
theorem l1_laws_szMethodS_eq (v0 : (List (Int × ((List Int) × (Int × (Int × Int)))))) (v16 : Int) (v80 : Int) : l1_laws_szMethodS v0 v16 v80 =
    bif (decide (v80 < (v0.length : Int))) then
      (at? v0 v80).bind fun z1 =>
      (f_laws_szMethod z1 v16).bind fun z2 =>
      bif (decide (z2 < (0 : Int))) then
        some (-1 : Int)
      else
        l1_laws_szMethodS v0 z2 (IntKind.wrap .i64 (v80 + (1 : Int)))
    else
      some v16 :=
  (show l1_laws_szMethodS v0 v16 v80 = (Jl (DOf c_laws_szMethodS) (irBlk a_laws_szMethodS.L b_laws_szMethodS) 1 [⟨tLPIPLIPIPII, v0⟩, ⟨tI, v16⟩, ⟨tI, v80⟩]).bind (readOuts [tI]) by kernel_rfl).trans ((Jstep2 (DKOf_eq c_laws_szMethodS)).trans (by kernel_rfl))
/- loop.example/g01989/laws.szAtom -/
def s_laws_szAtom : Sig := ⟨149, [.v tPILI, .v tI], [(tI, [none])]⟩
def a_laws_szAtom : FAnn := ⟨[⟨[(0, ⟨0, [], .va⟩), (1, ⟨0, [], .va⟩), (15, ⟨0, [], .pl 2 true⟩), (16, ⟨0, [], .va⟩), (31, ⟨0, [], .pl 1 false⟩)], [0, 1, 16]⟩],
  (.seq (.reg [aT, aT]) (.seq (.reg [aT, aT, aR, aT, aT]) (.seq (.seq (.reg [aR, aT]) (.cond none (.seq (.reg [aT]) .none) .none)) (.seq (.reg [aR, aT]) .none)))),
  []⟩
def b_laws_szAtom : List (Nat × Tree) := [(0, (.ins (.grp [] [.cp 32 (.k 0), .cp 33 (.k 1)] (.grp [] [.cp 64 (.c (.int .i64 (0)))] .nil)) (.ins (.grp [] [.cp 96 (.k 33)] (.grp [] [.cp 112 (.k 16)] (.grp [] [.call 0 [(tLI, [(.k 96)]), (tI, [(.k 112)])] [[128]]] (.grp [] [.cp 16 (.k 128)] .nil)))) (.ins (.grp [] [.cp 144 (.k 16)] (.grp [] [.bin .lss 160 (.k 144) (.c (.int .i64 (0)))] .nil)) (.ite (.k 160) (.ins (.grp [] [.cp 64 (.c (.int .i64 (-1)))] .nil) (.ret [(tI, [(.k 64)])])) (.ins (.grp [] [.cp 176 (.k 16)] (.grp [] [.cp 64 (.k 176)] .nil)) (.ret [(tI, [(.k 64)])])))))))]
noncomputable def c_laws_szAtom : List Lf.Fn := [n_laws_szIntS]
noncomputable def f_laws_szAtom : (Int × (List Int)) → Int → Option (Int) := tyd [tPILI, tI] [tI] (fnD (DOf c_laws_szAtom) s_laws_szAtom a_laws_szAtom.L b_laws_szAtom)
noncomputable def n_laws_szAtom : Lf.Fn := ⟨s_laws_szAtom, [tPILI, tI], [tI], f_laws_szAtom⟩
theorem k_laws_szAtom : compFn Try.prog (sigsOf c_laws_szAtom) s_laws_szAtom a_laws_szAtom = some b_laws_szAtom := by kernel_rfl
theorem g_laws_szAtom : Lf.Good Try.prog n_laws_szAtom := good_of (by simp only [c_laws_szAtom, List.mem_singleton]; rintro _ rfl; exact g_laws_szIntS) k_laws_szAtom (by kernel_rfl) ⟨Try.f149, by kernel_rfl, by kernel_rfl, by kernel_rfl⟩ [tPILI, tI] [tI]
theorem f_laws_szAtom_eq (x0 : (Int × (List Int))) (x1 : Int) : f_laws_szAtom x0 x1 =
    (f_laws_szIntS x0.2 x1).bind fun z1 =>
    bif (decide (z1 < (0 : Int))) then
      some (-1 : Int)
    else
      some z1 :=
  (show f_laws_szAtom x0 x1 = (Jl (DOf c_laws_szAtom) (irBlk a_laws_szAtom.L b_laws_szAtom) 0 [⟨tI, x0.1⟩, ⟨tLI, x0.2⟩, ⟨tI, x1⟩]).bind (readOuts [tI]) by kernel_rfl).trans ((Jstep2 (DKOf_eq c_laws_szAtom)).trans (by kernel_rfl))
/- loop.example/g01989/laws.szAtomS -/
def s_laws_szAtomS : Sig := ⟨84, [.v tLPILI, .v tI], [(tI, [none])]⟩
def a_laws_szAtomS : FAnn := ⟨[⟨[(0, ⟨0, [], .va⟩), (15, ⟨0, [], .pl 1 false⟩), (16, ⟨0, [], .va⟩), (31, ⟨0, [], .pl 1 false⟩)], [0, 16]⟩,
    ⟨[(0, ⟨0, [], .va⟩), (15, ⟨0, [], .pl 1 false⟩), (16, ⟨0, [], .va⟩), (31, ⟨0, [], .pl 1 false⟩), (80, ⟨0, [], .va⟩), (95, ⟨0, [], .pl 1 false⟩)], [0, 16, 80]⟩],
  (.seq (.reg [aT]) (.seq (.reg [aR, aR, aT, aT, aT]) (.seq (.seq (.reg [aR, aT]) (.cond none (.seq (.reg [aT]) .none) .none)) (.seq (.seq (.reg [aT]) (.block none (.loop 1 (.seq (.seq (.reg [aR, aR, aT, aT]) (.cond none .none .none)) (.seq (.block none (.seq (.reg [aR, aR, aT, aT, aR, aT, aT]) (.seq (.reg [aR, aT]) (.cond none (.seq (.reg [aT]) .none) .none)))) (.reg [aR, aT, aT])))))) (.seq (.reg [aR, aT]) .none))))),
  []⟩
def b_laws_szAtomS : List (Nat × Tree) := [(0, (.ins (.grp [] [.cp 64 (.c (.int .i64 (0)))] .nil) (.ins (.grp [] [.cp 96 (.k 16)] (.grp [] [.cp 112 (.k 0)] (.grp [] [.len false 128 (.k 112)] (.grp [] [.bin .sub 144 (.k 96) (.k 128)] (.grp [] [.cp 16 (.k 144)] .nil))))) (.ins (.grp [] [.cp 160 (.k 16)] (.grp [] [.bin .lss 176 (.k 160) (.c (.int .i64 (0)))] .nil)) (.ite (.k 176) (.ins (.grp [] [.cp 64 (.c (.int .i64 (-1)))] .nil) (.ret [(tI, [(.k 64)])])) (.ins (.grp [] [.cp 80 (.c (.int .i64 (0)))] .nil) (.jump 1 [0, 16, 80]))))))),
  (1, (.ins (.grp [] [.cp 192 (.k 80)] (.grp [] [.cp 208 (.k 0)] (.grp [] [.len false 224 (.k 208)] (.grp [] [.bin .lss 240 (.k 192) (.k 224)] .nil)))) (.ite (.k 240) (.ins (.grp [] [.cp 288 (.k 0)] (.grp [] [.cp 304 (.k 80)] (.grp [] [.idx (some tPILI) [320, 321] 0 (.k 288) (.k 304)] (.grp [] [.cp 336 (.k 320), .cp 337 (.k 321)] (.grp [] [.cp 352 (.k 16)] (.grp [] [.call 0 [(tPILI, [(.k 336), (.k 337)]), (tI, [(.k 352)])] [[368]]] (.grp [] [.cp 16 (.k 368)] .nil))))))) (.ins (.grp [] [.cp 384 (.k 16)] (.grp [] [.bin .lss 400 (.k 384) (.c (.int .i64 (0)))] .nil)) (.ite (.k 400) (.ins (.grp [] [.cp 64 (.c (.int .i64 (-1)))] .nil) (.ret [(tI, [(.k 64)])])) (.ins (.grp [] [.cp 256 (.k 80)] (.grp [] [.bin .add 272 (.k 256) (.c (.int .i64 (1)))] (.grp [] [.cp 80 (.k 272)] .nil))) (.jump 1 [0, 16, 80]))))) (.ins (.grp [] [.cp 416 (.k 16)] (.grp [] [.cp 64 (.k 416)] .nil)) (.ret [(tI, [(.k 64)])])))))]
noncomputable def c_laws_szAtomS : List Lf.Fn := [n_laws_szAtom]
noncomputable def f_laws_szAtomS : (List (Int × (List Int))) → Int → Option (Int) := tyd [tLPILI, tI] [tI] (fnD (DOf c_laws_szAtomS) s_laws_szAtomS a_laws_szAtomS.L b_laws_szAtomS)
noncomputable def n_laws_szAtomS : Lf.Fn := ⟨s_laws_szAtomS, [tLPILI, tI], [tI], f_laws_szAtomS⟩
noncomputable def l1_laws_szAtomS (v0 : (List (Int × (List Int)))) (v16 : Int) (v80 : Int) : Option (Int) := (Jl (DOf c_laws_szAtomS) (irBlk a_laws_szAtomS.L b_laws_szAtomS) 1 [⟨tLPILI, v0⟩, ⟨tI, v16⟩, ⟨tI, v80⟩]).bind (readOuts [tI])
theorem k_laws_szAtomS : compFn Try.prog (sigsOf c_laws_szAtomS) s_laws_szAtomS a_laws_szAtomS = some b_laws_szAtomS := by kernel_rfl
theorem g_laws_szAtomS : Lf.Good Try.prog n_laws_szAtomS := good_of (by simp only [c_laws_szAtomS, List.mem_singleton]; rintro _ rfl; exact g_laws_szAtom) k_laws_szAtomS (by kernel_rfl) ⟨Try.f84, by kernel_rfl, by kernel_rfl, by kernel_rfl⟩ [tLPILI, tI] [tI]
theorem f_laws_szAtomS_eq (x0 : (List (Int × (List Int)))) (x1 : Int) : f_laws_szAtomS x0 x1 =
    bif (decide ((IntKind.wrap .i64 (x1 - (x0.length : Int))) < (0 : Int))) then
      some (-1 : Int)
    else
      l1_laws_szAtomS x0 (IntKind.wrap .i64 (x1 - (x0.length : Int))) (0 : Int) :=
  (show f_laws_szAtomS x0 x1 = (Jl (DOf c_laws_szAtomS) (irBlk a_laws_szAtomS.L b_laws_szAtomS) 0 [⟨tLPILI, x0⟩, ⟨tI, x1⟩]).bind (readOuts [tI]) by kernel_rfl).trans ((Jstep2 (DKOf_eq c_laws_szAtomS)).trans (by kernel_rfl))
theorem l1_laws_szAtomS_eq (v0 : (List (Int × (List Int)))) (v16 : Int) (v80 : Int) : l1_laws_szAtomS v0 v16 v80 =
    bif (decide (v80 < (v0.length : Int))) then
      (at? v0 v80).bind fun z1 =>
      (f_laws_szAtom z1 v16).bind fun z2 =>
      bif (decide (z2 < (0 : Int))) then
        some (-1 : Int)
      else
        l1_laws_szAtomS v0 z2 (IntKind.wrap .i64 (v80 + (1 : Int)))
    else
      some v16 :=
  (show l1_laws_szAtomS v0 v16 v80 = (Jl (DOf c_laws_szAtomS) (irBlk a_laws_szAtomS.L b_laws_szAtomS) 1 [⟨tLPILI, v0⟩, ⟨tI, v16⟩, ⟨tI, v80⟩]).bind (readOuts [tI]) by kernel_rfl).trans ((Jstep2 (DKOf_eq c_laws_szAtomS)).trans (by kernel_rfl))
/- loop.example/g01989/laws.szQuery -/
def s_laws_szQuery : Sig := ⟨23, [.v tPLILPILI, .v tI], [(tI, [none])]⟩
def a_laws_szQuery : FAnn := ⟨[⟨[(0, ⟨0, [], .va⟩), (1, ⟨0, [], .va⟩), (15, ⟨0, [], .pl 2 true⟩), (16, ⟨0, [], .va⟩), (31, ⟨0, [], .pl 1 false⟩)], [0, 1, 16]⟩],
  (.seq (.reg [aT, aT]) (.seq (.reg [aT, aT, aR, aT, aT]) (.seq (.seq (.reg [aR, aT]) (.cond none (.seq (.reg [aT]) .none) .none)) (.seq (.reg [aT, aT, aR, ⟨.take, 1, []⟩, aT]) (.seq (.seq (.reg [aR, aT]) (.cond none (.seq (.reg [aT]) .none) .none)) (.seq (.reg [aR, aT]) .none)))))),
  []⟩
def b_laws_szQuery : List (Nat × Tree) := [(0, (.ins (.grp [] [.cp 32 (.k 0), .cp 33 (.k 1)] (.grp [] [.cp 64 (.c (.int .i64 (0)))] .nil)) (.ins (.grp [] [.cp 96 (.k 32)] (.grp [] [.cp 112 (.k 16)] (.grp [] [.call 0 [(tLI, [(.k 96)]), (tI, [(.k 112)])] [[128]]] (.grp [] [.cp 16 (.k 128)] .nil)))) (.ins (.grp [] [.cp 144 (.k 16)] (.grp [] [.bin .lss 160 (.k 144) (.c (.int .i64 (0)))] .nil)) (.ite (.k 160) (.ins (.grp [] [.cp 64 (.c (.int .i64 (-1)))] .nil) (.ret [(tI, [(.k 64)])])) (.ins (.grp [] [.cp 192 (.k 33)] (.grp [] [.cp 208 (.k 16)] (.grp [] [.call 1 [(tLPILI, [(.k 192)]), (tI, [(.k 208)])] [[224]]] (.grp [] [.cp 16 (.k 224)] .nil)))) (.ins (.grp [] [.cp 240 (.k 16)] (.grp [] [.bin .lss 256 (.k 240) (.c (.int .i64 (0)))] .nil)) (.ite (.k 256) (.ins (.grp [] [.cp 64 (.c (.int .i64 (-1)))] .nil) (.ret [(tI, [(.k 64)])])) (.ins (.grp [] [.cp 272 (.k 16)] (.grp [] [.cp 64 (.k 272)] .nil)) (.ret [(tI, [(.k 64)])]))))))))))]
noncomputable def c_laws_szQuery : List Lf.Fn := [n_laws_szIntS, n_laws_szAtomS]
noncomputable def f_laws_szQuery : ((List Int) × (List (Int × (List Int)))) → Int → Option (Int) := tyd [tPLILPILI, tI] [tI] (fnD (DOf c_laws_szQuery) s_laws_szQuery a_laws_szQuery.L b_laws_szQuery)
noncomputable def n_laws_szQuery : Lf.Fn := ⟨s_laws_szQuery, [tPLILPILI, tI], [tI], f_laws_szQuery⟩
theorem k_laws_szQuery : compFn Try.prog (sigsOf c_laws_szQuery) s_laws_szQuery a_laws_szQuery = some b_laws_szQuery := by kernel_rfl
theorem g_laws_szQuery : Lf.Good Try.prog n_laws_szQuery := good_of (by simp only [c_laws_szQuery, List.mem_cons, List.not_mem_nil, or_false]; rintro _ (rfl | rfl); exact g_laws_szIntS; exact g_laws_szAtomS) k_laws_szQuery (by kernel_rfl) ⟨Try.f23, by kernel_rfl, by kernel_rfl, by kernel_rfl⟩ [tPLILPILI, tI] [tI]
theorem f_laws_szQuery_eq (x0 : ((List Int) × (List (Int × (List Int))))) (x1 : Int) : f_laws_szQuery x0 x1 =
    (f_laws_szIntS x0.1 x1).bind fun z1 =>
    bif (decide (z1 < (0 : Int))) then
      some (-1 : Int)
    else
      (f_laws_szAtomS x0.2 z1).bind fun z2 =>
      bif (decide (z2 < (0 : Int))) then
        some (-1 : Int)
      else
        some z2 :=
  (show f_laws_szQuery x0 x1 = (Jl (DOf c_laws_szQuery) (irBlk a_laws_szQuery.L b_laws_szQuery) 0 [⟨tLI, x0.1⟩, ⟨tLPILI, x0.2⟩, ⟨tI, x1⟩]).bind (readOuts [tI]) by kernel_rfl).trans ((Jstep2 (DKOf_eq c_laws_szQuery)).trans (by kernel_rfl))
/- loop.example/g01989/laws.toIntS -/
def s_laws_toIntS : Sig := ⟨72, [.v tLI], [(tLI, [some .sc])]⟩
def a_laws_toIntS : FAnn := ⟨[⟨[(0, ⟨0, [], .va⟩), (15, ⟨0, [], .pl 1 false⟩)], [0]⟩,
    ⟨[(0, ⟨0, [], .va⟩), (15, ⟨0, [], .pl 1 false⟩), (48, ⟨0, [], .ro .sc none⟩), (63, ⟨0, [], .pl 1 false⟩), (64, ⟨0, [], .va⟩), (79, ⟨0, [], .pl 1 false⟩)], [0, 48, 64]⟩],
  (.seq (.reg [aT]) (.seq (.reg [aR, aT, aT, aT]) (.seq (.seq (.reg [aT]) (.block none (.loop 1 (.seq (.seq (.reg [aR, aR, aT, aT]) (.cond none .none .none)) (.seq (.block none (.reg [aR, aR, aR, aR, aT, aT, aT, aT])) (.reg [aR, aT, aT])))))) (.seq (.reg [aR, aT]) .none)))),
  []⟩
def b_laws_toIntS : List (Nat × Tree) := [(0, (.ins (.grp [] [.cp 32 (.c (.nil tI))] .nil) (.ins (.grp [] [.cp 80 (.k 0)] (.grp [] [.len false 96 (.k 80)] (.grp [] [.mk 112 tI (.k 96)] (.grp [] [.cp 48 (.k 112)] .nil)))) (.ins (.grp [] [.cp 64 (.c (.int .i64 (0)))] .nil) (.jump 1 [0, 48, 64]))))),
  (1, (.ins (.grp [] [.cp 128 (.k 64)] (.grp [] [.cp 144 (.k 0)] (.grp [] [.len false 160 (.k 144)] (.grp [] [.bin .lss 176 (.k 128) (.k 160)] .nil)))) (.ite (.k 176) (.ins (.grp [] [.cp 224 (.k 48)] (.grp [] [.cp 240 (.k 64)] (.grp [] [.cp 256 (.k 0)] (.grp [] [.cp 272 (.k 64)] (.grp [] [.idx (some tI) [288] 0 (.k 256) (.k 272)] (.grp [] [.cp 304 (.k 288)] (.grp [] [.chk tI (.k 48) (.k 240)] (.grp [] [.setE 48 (.k 240) 0 [tI] [(.k 304)]] .nil)))))))) (.ins (.grp [] [.cp 192 (.k 64)] (.grp [] [.bin .add 208 (.k 192) (.c (.int .i64 (1)))] (.grp [] [.cp 64 (.k 208)] .nil))) (.jump 1 [0, 48, 64]))) (.ins (.grp [] [.cp 336 (.k 48)] (.grp [] [.cp 32 (.k 48)] .nil)) (.ret [(tLI, [(.k 32)])])))))]
noncomputable def c_laws_toIntS : List Lf.Fn := []
noncomputable def f_laws_toIntS : (List Int) → Option ((List Int)) := tyd [tLI] [tLI] (fnD (DOf c_laws_toIntS) s_laws_toIntS a_laws_toIntS.L b_laws_toIntS)
noncomputable def n_laws_toIntS : Lf.Fn := ⟨s_laws_toIntS, [tLI], [tLI], f_laws_toIntS⟩
noncomputable def l1_laws_toIntS (v0 : (List Int)) (v48 : (List Int)) (v64 : Int) : Option ((List Int)) := (Jl (DOf c_laws_toIntS) (irBlk a_laws_toIntS.L b_laws_toIntS) 1 [⟨tLI, v0⟩, ⟨tLI, v48⟩, ⟨tI, v64⟩]).bind (readOuts [tLI])
theorem k_laws_toIntS : compFn Try.prog (sigsOf c_laws_toIntS) s_laws_toIntS a_laws_toIntS = some b_laws_toIntS := by kernel_rfl
theorem g_laws_toIntS : Lf.Good Try.prog n_laws_toIntS := good_of (by intro _ h; simp [c_laws_toIntS] at h) k_laws_toIntS (by kernel_rfl) ⟨Try.f72, by kernel_rfl, by kernel_rfl, by kernel_rfl⟩ [tLI] [tLI]
theorem f_laws_toIntS_eq (x0 : (List Int)) : f_laws_toIntS x0 =
    bif mkOk (x0.length : Int) then
    l1_laws_toIntS x0 (List.replicate (Int.toNat (x0.length : Int)) (0 : Int)) (0 : Int)
    else none :=
  (show f_laws_toIntS x0 = (Jl (DOf c_laws_toIntS) (irBlk a_laws_toIntS.L b_laws_toIntS) 0 [⟨tLI, x0⟩]).bind (readOuts [tLI]) by kernel_rfl).trans ((Jstep2 (DKOf_eq c_laws_toIntS)).trans (by kernel_rfl))
theorem l1_laws_toIntS_eq (v0 : (List Int)) (v48 : (List Int)) (v64 : Int) : l1_laws_toIntS v0 v48 v64 =
    bif (decide (v64 < (v0.length : Int))) then
      (at? v0 v64).bind fun z1 =>
      (at? v48 v64).bind fun _ =>
      (at? v48 v64).bind fun z2 =>
      l1_laws_toIntS v0 (v48.set (Int.toNat v64) z1) (IntKind.wrap .i64 (v64 + (1 : Int)))
    else
      some v48 :=
  (show l1_laws_toIntS v0 v48 v64 = (Jl (DOf c_laws_toIntS) (irBlk a_laws_toIntS.L b_laws_toIntS) 1 [⟨tLI, v0⟩, ⟨tLI, v48⟩, ⟨tI, v64⟩]).bind (readOuts [tLI]) by kernel_rfl).trans ((Jstep2 (DKOf_eq c_laws_toIntS)).trans (by kernel_rfl))
/- loop.example/g01989/laws.toMethod -/
def s_laws_toMethod : Sig := ⟨87, [.v tPIPLIPIPII], [(tPIPLIPIPII, [none, some .sc, none, none, none])]⟩
def a_laws_toMethod : FAnn := ⟨[⟨[(0, ⟨0, [], .va⟩), (1, ⟨0, [], .va⟩), (2, ⟨0, [], .va⟩), (3, ⟨0, [], .va⟩), (4, ⟨0, [], .va⟩), (15, ⟨0, [], .pl 5 true⟩)], [0, 1, 2, 3, 4]⟩],
  (.seq (.reg [aT, aT]) (.seq (.reg [aT]) (.seq (.reg [aT, aT, aT, aT]) (.seq (.reg [aT, aT, aT, aT, aT]) (.seq (.reg [aT, aT, aT, aT]) (.seq (.reg [aT, aT, aT, aT]) (.seq (.reg [aT, aT, aT, aT]) (.seq (.reg [aT, aT]) .none)))))))),
  []⟩
def b_laws_toMethod : List (Nat × Tree) := [(0, (.ins (.grp [] [.cp 16 (.k 0), .cp 17 (.k 1), .cp 18 (.k 2), .cp 19 (.k 3), .cp 20 (.k 4)] (.grp [] [.cp 32 (.c (.int .i64 (0))), .cp 33 (.c (.nil tI)), .cp 34 (.c (.int .i64 (0))), .cp 35 (.c (.int .i64 (0))), .cp 36 (.c (.int .i64 (0)))] .nil)) (.ins (.grp [] [.cp 48 (.c (.int .i64 (0))), .cp 49 (.c (.nil tI)), .cp 50 (.c (.int .i64 (0))), .cp 51 (.c (.int .i64 (0))), .cp 52 (.c (.int .i64 (0)))] .nil) (.ins (.grp [] [.cp 80 (.k 16)] (.grp [] [.cp 48 (.k 80)] .nil)) (.ins (.grp [] [.cp 128 (.k 17)] (.grp [] [.call 0 [(tLI, [(.k 128)])] [[144]]] (.grp [] [.cp 49 (.k 144)] .nil))) (.ins (.grp [] [.cp 192 (.k 18)] (.grp [] [.cp 50 (.k 192)] .nil)) (.ins (.grp [] [.cp 240 (.k 19)] (.grp [] [.cp 51 (.k 240)] .nil)) (.ins (.grp [] [.cp 288 (.k 20)] (.grp [] [.cp 52 (.k 288)] .nil)) (.ins (.grp [] [.cp 320 (.k 48), .cp 321 (.k 49), .cp 322 (.k 50), .cp 323 (.k 51), .cp 324 (.k 52)] (.grp [] [.cp 32 (.k 320), .cp 33 (.k 49), .cp 34 (.k 322), .cp 35 (.k 323), .cp 36 (.k 324)] .nil)) (.ret [(tPIPLIPIPII, [(.k 32), (.k 33), (.k 34), (.k 35), (.k 36)])]))))))))))]
noncomputable def c_laws_toMethod : List Lf.Fn := [n_laws_toIntS]
noncomputable def f_laws_toMethod : (Int × ((List Int) × (Int × (Int × Int)))) → Option ((Int × ((List Int) × (Int × (Int × Int))))) := tyd [tPIPLIPIPII] [tPIPLIPIPII] (fnD (DOf c_laws_toMethod) s_laws_toMethod a_laws_toMethod.L b_laws_toMethod)
noncomputable def n_laws_toMethod : Lf.Fn := ⟨s_laws_toMethod, [tPIPLIPIPII], [tPIPLIPIPII], f_laws_toMethod⟩
theorem k_laws_toMethod : compFn Try.prog (sigsOf c_laws_toMethod) s_laws_toMethod a_laws_toMethod = some b_laws_toMethod := by kernel_rfl
theorem g_laws_toMethod : Lf.Good Try.prog n_laws_toMethod := good_of (by simp only [c_laws_toMethod, List.mem_singleton]; rintro _ rfl; exact g_laws_toIntS) k_laws_toMethod (by kernel_rfl) ⟨Try.f87, by kernel_rfl, by kernel_rfl, by kernel_rfl⟩ [tPIPLIPIPII] [tPIPLIPIPII]
theorem f_laws_toMethod_eq (x0 : (Int × ((List Int) × (Int × (Int × Int))))) : f_laws_toMethod x0 =
    (f_laws_toIntS x0.2.1).bind fun z1 =>
    some (x0.1, (z1, x0.2.2)) :=
  (show f_laws_toMethod x0 = (Jl (DOf c_laws_toMethod) (irBlk a_laws_toMethod.L b_laws_toMethod) 0 [⟨tI, x0.1⟩, ⟨tLI, x0.2.1⟩, ⟨tI, x0.2.2.1⟩, ⟨tI, x0.2.2.2.1⟩, ⟨tI, x0.2.2.2.2⟩]).bind (readOuts [tPIPLIPIPII]) by kernel_rfl).trans ((Jstep2 (DKOf_eq c_laws_toMethod)).trans (by kernel_rfl))
/- loop.example/g01989/laws.toMethodS -/
def s_laws_toMethodS : Sig := ⟨27, [.v tLPIPLIPIPII], [(tLPIPLIPIPII, [some m46dba])]⟩
def a_laws_toMethodS : FAnn := ⟨[⟨[(0, ⟨0, [], .va⟩), (15, ⟨0, [], .pl 1 false⟩)], [0]⟩,
    ⟨[(0, ⟨0, [], .va⟩), (15, ⟨0, [], .pl 1 false⟩), (48, ⟨0, [], .ro m46dba none⟩), (63, ⟨0, [], .pl 1 false⟩), (64, ⟨0, [], .va⟩), (79, ⟨0, [], .pl 1 false⟩)], [0, 48, 64]⟩],
  (.seq (.reg [aT]) (.seq (.reg [aR, aT, aT, aT]) (.seq (.seq (.reg [aT]) (.block none (.loop 1 (.seq (.seq (.reg [aR, aR, aT, aT]) (.cond none .none .none)) (.seq (.block none (.reg [aR, aR, aR, aR, aT, aT, aT, aT, aT])) (.reg [aR, aT, aT])))))) (.seq (.reg [aR, aT]) .none)))),
  []⟩
def b_laws_toMethodS : List (Nat × Tree) := [(0, (.ins (.grp [] [.cp 32 (.c (.nil tPIPLIPIPII))] .nil) (.ins (.grp [] [.cp 80 (.k 0)] (.grp [] [.len false 96 (.k 80)] (.grp [] [.mk 112 tPIPLIPIPII (.k 96)] (.grp [] [.cp 48 (.k 112)] .nil)))) (.ins (.grp [] [.cp 64 (.c (.int .i64 (0)))] .nil) (.jump 1 [0, 48, 64]))))),
  (1, (.ins (.grp [] [.cp 128 (.k 64)] (.grp [] [.cp 144 (.k 0)] (.grp [] [.len false 160 (.k 144)] (.grp [] [.bin .lss 176 (.k 128) (.k 160)] .nil)))) (.ite (.k 176) (.ins (.grp [] [.cp 224 (.k 48)] (.grp [] [.cp 240 (.k 64)] (.grp [] [.cp 256 (.k 0)] (.grp [] [.cp 272 (.k 64)] (.grp [] [.idx (some tPIPLIPIPII) [288, 289, 290, 291, 292] 0 (.k 256) (.k 272)] (.grp [] [.cp 304 (.k 288), .cp 305 (.k 289), .cp 306 (.k 290), .cp 307 (.k 291), .cp 308 (.k 292)] (.grp [] [.call 0 [(tPIPLIPIPII, [(.k 304), (.k 305), (.k 306), (.k 307), (.k 308)])] [[320, 321, 322, 323, 324]]] (.grp [] [.chk tPIPLIPIPII (.k 48) (.k 240)] (.grp [] [.setE 48 (.k 240) 0 [tI, tLI, tI, tI, tI] [(.k 320), (.k 321), (.k 322), (.k 323), (.k 324)]] .nil))))))))) (.ins (.grp [] [.cp 192 (.k 64)] (.grp [] [.bin .add 208 (.k 192) (.c (.int .i64 (1)))] (.grp [] [.cp 64 (.k 208)] .nil))) (.jump 1 [0, 48, 64]))) (.ins (.grp [] [.cp 352 (.k 48)] (.grp [] [.cp 32 (.k 48)] .nil)) (.ret [(tLPIPLIPIPII, [(.k 32)])])))))]
noncomputable def c_laws_toMethodS : List Lf.Fn := [n_laws_toMethod]
noncomputable def f_laws_toMethodS : (List (Int × ((List Int) × (Int × (Int × Int))))) → Option ((List (Int × ((List Int) × (Int × (Int × Int)))))) := tyd [tLPIPLIPIPII] [tLPIPLIPIPII] (fnD (DOf c_laws_toMethodS) s_laws_toMethodS a_laws_toMethodS.L b_laws_toMethodS)
noncomputable def n_laws_toMethodS : Lf.Fn := ⟨s_laws_toMethodS, [tLPIPLIPIPII], [tLPIPLIPIPII], f_laws_toMethodS⟩
noncomputable def l1_laws_toMethodS (v0 : (List (Int × ((List Int) × (Int × (Int × Int)))))) (v48 : (List (Int × ((List Int) × (Int × (Int × Int)))))) (v64 : Int) : Option ((List (Int × ((List Int) × (Int × (Int × Int)))))) := (Jl (DOf c_laws_toMethodS) (irBlk a_laws_toMethodS.L b_laws_toMethodS) 1 [⟨tLPIPLIPIPII, v0⟩, ⟨tLPIPLIPIPII, v48⟩, ⟨tI, v64⟩]).bind (readOuts [tLPIPLIPIPII])
theorem k_laws_toMethodS : compFn Try.prog (sigsOf c_laws_toMethodS) s_laws_toMethodS a_laws_toMethodS = some b_laws_toMethodS := by kernel_rfl
theorem g_laws_toMethodS : Lf.Good Try.prog n_laws_toMethodS := good_of (by simp only [c_laws_toMethodS, List.mem_singleton]; rintro _ rfl; exact g_laws_toMethod) k_laws_toMethodS (by kernel_rfl) ⟨Try.f27, by kernel_rfl, by kernel_rfl, by kernel_rfl⟩ [tLPIPLIPIPII] [tLPIPLIPIPII]
theorem f_laws_toMethodS_eq (x0 : (List (Int × ((List Int) × (Int × (Int × Int)))))) : f_laws_toMethodS x0 =
    bif mkOk (x0.length : Int) then
    l1_laws_toMethodS x0 (List.replicate (Int.toNat (x0.length : Int)) ((0 : Int), (([] : List Int), ((0 : Int), ((0 : Int), (0 : Int)))))) (0 : Int)
    else none :=
  (show f_laws_toMethodS x0 = (Jl (DOf c_laws_toMethodS) (irBlk a_laws_toMethodS.L b_laws_toMethodS) 0 [⟨tLPIPLIPIPII, x0⟩]).bind (readOuts [tLPIPLIPIPII]) by kernel_rfl).trans ((Jstep2 (DKOf_eq c_laws_toMethodS)).trans (by kernel_rfl))
theorem l1_laws_toMethodS_eq (v0 : (List (Int × ((List Int) × (Int × (Int × Int)))))) (v48 : (List (Int × ((List Int) × (Int × (Int × Int)))))) (v64 : Int) : l1_laws_toMethodS v0 v48 v64 =
    bif (decide (v64 < (v0.length : Int))) then
      (at? v0 v64).bind fun z1 =>
      (f_laws_toMethod z1).bind fun z2 =>
      (at? v48 v64).bind fun _ =>
      (at? v48 v64).bind fun z3 =>
      l1_laws_toMethodS v0 (v48.set (Int.toNat v64) z2) (IntKind.wrap .i64 (v64 + (1 : Int)))
    else
      some v48 :=
  (show l1_laws_toMethodS v0 v48 v64 = (Jl (DOf c_laws_toMethodS) (irBlk a_laws_toMethodS.L b_laws_toMethodS) 1 [⟨tLPIPLIPIPII, v0⟩, ⟨tLPIPLIPIPII, v48⟩, ⟨tI, v64⟩]).bind (readOuts [tLPIPLIPIPII]) by kernel_rfl).trans ((Jstep2 (DKOf_eq c_laws_toMethodS)).trans (by kernel_rfl))
/- loop.example/g01989/laws.toAtom -/
def s_laws_toAtom : Sig := ⟨150, [.v tPILI], [(tPILI, [none, some .sc])]⟩
def a_laws_toAtom : FAnn := ⟨[⟨[(0, ⟨0, [], .va⟩), (1, ⟨0, [], .va⟩), (15, ⟨0, [], .pl 2 true⟩)], [0, 1]⟩],
  (.seq (.reg [aT, aT]) (.seq (.reg [aT]) (.seq (.reg [aT, aT, aT, aT]) (.seq (.reg [aT, aT, aT, aT, aT]) (.seq (.reg [aT, aT]) .none))))),
  []⟩
def b_laws_toAtom : List (Nat × Tree) := [(0, (.ins (.grp [] [.cp 16 (.k 0), .cp 17 (.k 1)] (.grp [] [.cp 32 (.c (.int .i64 (0))), .cp 33 (.c (.nil tI))] .nil)) (.ins (.grp [] [.cp 48 (.c (.int .i64 (0))), .cp 49 (.c (.nil tI))] .nil) (.ins (.grp [] [.cp 80 (.k 16)] (.grp [] [.cp 48 (.k 80)] .nil)) (.ins (.grp [] [.cp 128 (.k 17)] (.grp [] [.call 0 [(tLI, [(.k 128)])] [[144]]] (.grp [] [.cp 49 (.k 144)] .nil))) (.ins (.grp [] [.cp 176 (.k 48), .cp 177 (.k 49)] (.grp [] [.cp 32 (.k 176), .cp 33 (.k 49)] .nil)) (.ret [(tPILI, [(.k 32), (.k 33)])])))))))]
noncomputable def c_laws_toAtom : List Lf.Fn := [n_laws_toIntS]
noncomputable def f_laws_toAtom : (Int × (List Int)) → Option ((Int × (List Int))) := tyd [tPILI] [tPILI] (fnD (DOf c_laws_toAtom) s_laws_toAtom a_laws_toAtom.L b_laws_toAtom)
noncomputable def n_laws_toAtom : Lf.Fn := ⟨s_laws_toAtom, [tPILI], [tPILI], f_laws_toAtom⟩
theorem k_laws_toAtom : compFn Try.prog (sigsOf c_laws_toAtom) s_laws_toAtom a_laws_toAtom = some b_laws_toAtom := by kernel_rfl
theorem g_laws_toAtom : Lf.Good Try.prog n_laws_toAtom := good_of (by simp only [c_laws_toAtom, List.mem_singleton]; rintro _ rfl; exact g_laws_toIntS) k_laws_toAtom (by kernel_rfl) ⟨Try.f150, by kernel_rfl, by kernel_rfl, by kernel_rfl⟩ [tPILI] [tPILI]
theorem f_laws_toAtom_eq (x0 : (Int × (List Int))) : f_laws_toAtom x0 =
    (f_laws_toIntS x0.2).bind fun z1 =>
    some (x0.1, z1) :=
  (show f_laws_toAtom x0 = (Jl (DOf c_laws_toAtom) (irBlk a_laws_toAtom.L b_laws_toAtom) 0 [⟨tI, x0.1⟩, ⟨tLI, x0.2⟩]).bind (readOuts [tPILI]) by kernel_rfl).trans ((Jstep2 (DKOf_eq c_laws_toAtom)).trans (by kernel_rfl))
/- loop.example/g01989/laws.toAtomS -/
def s_laws_toAtomS : Sig := ⟨86, [.v tLPILI], [(tLPILI, [some mca4df])]⟩
def a_laws_toAtomS : FAnn := ⟨[⟨[(0, ⟨0, [], .va⟩), (15, ⟨0, [], .pl 1 false⟩)], [0]⟩,
    ⟨[(0, ⟨0, [], .va⟩), (15, ⟨0, [], .pl 1 false⟩), (48, ⟨0, [], .ro mca4df none⟩), (63, ⟨0, [], .pl 1 false⟩), (64, ⟨0, [], .va⟩), (79, ⟨0, [], .pl 1 false⟩)], [0, 48, 64]⟩],
  (.seq (.reg [aT]) (.seq (.reg [aR, aT, aT, aT]) (.seq (.seq (.reg [aT]) (.block none (.loop 1 (.seq (.seq (.reg [aR, aR, aT, aT]) (.cond none .none .none)) (.seq (.block none (.reg [aR, aR, aR, aR, aT, aT, aT, aT, aT])) (.reg [aR, aT, aT])))))) (.seq (.reg [aR, aT]) .none)))),
  []⟩
def b_laws_toAtomS : List (Nat × Tree) := [(0, (.ins (.grp [] [.cp 32 (.c (.nil tPILI))] .nil) (.ins (.grp [] [.cp 80 (.k 0)] (.grp [] [.len false 96 (.k 80)] (.grp [] [.mk 112 tPILI (.k 96)] (.grp [] [.cp 48 (.k 112)] .nil)))) (.ins (.grp [] [.cp 64 (.c (.int .i64 (0)))] .nil) (.jump 1 [0, 48, 64]))))),
  (1, (.ins (.grp [] [.cp 128 (.k 64)] (.grp [] [.cp 144 (.k 0)] (.grp [] [.len false 160 (.k 144)] (.grp [] [.bin .lss 176 (.k 128) (.k 160)] .nil)))) (.ite (.k 176) (.ins (.grp [] [.cp 224 (.k 48)] (.grp [] [.cp 240 (.k 64)] (.grp [] [.cp 256 (.k 0)] (.grp [] [.cp 272 (.k 64)] (.grp [] [.idx (some tPILI) [288, 289] 0 (.k 256) (.k 272)] (.grp [] [.cp 304 (.k 288), .cp 305 (.k 289)] (.grp [] [.call 0 [(tPILI, [(.k 304), (.k 305)])] [[320, 321]]] (.grp [] [.chk tPILI (.k 48) (.k 240)] (.grp [] [.setE 48 (.k 240) 0 [tI, tLI] [(.k 320), (.k 321)]] .nil))))))))) (.ins (.grp [] [.cp 192 (.k 64)] (.grp [] [.bin .add 208 (.k 192) (.c (.int .i64 (1)))] (.grp [] [.cp 64 (.k 208)] .nil))) (.jump 1 [0, 48, 64]))) (.ins (.grp [] [.cp 352 (.k 48)] (.grp [] [.cp 32 (.k 48)] .nil)) (.ret [(tLPILI, [(.k 32)])])))))]
noncomputable def c_laws_toAtomS : List Lf.Fn := [n_laws_toAtom]
noncomputable def f_laws_toAtomS : (List (Int × (List Int))) → Option ((List (Int × (List Int)))) := tyd [tLPILI] [tLPILI] (fnD (DOf c_laws_toAtomS) s_laws_toAtomS a_laws_toAtomS.L b_laws_toAtomS)
noncomputable def n_laws_toAtomS : Lf.Fn := ⟨s_laws_toAtomS, [tLPILI], [tLPILI], f_laws_toAtomS⟩
noncomputable def l1_laws_toAtomS (v0 : (List (Int × (List Int)))) (v48 : (List (Int × (List Int)))) (v64 : Int) : Option ((List (Int × (List Int)))) := (Jl (DOf c_laws_toAtomS) (irBlk a_laws_toAtomS.L b_laws_toAtomS) 1 [⟨tLPILI, v0⟩, ⟨tLPILI, v48⟩, ⟨tI, v64⟩]).bind (readOuts [tLPILI])
theorem k_laws_toAtomS : compFn Try.prog (sigsOf c_laws_toAtomS) s_laws_toAtomS a_laws_toAtomS = some b_laws_toAtomS := by kernel_rfl
theorem g_laws_toAtomS : Lf.Good Try.prog n_laws_toAtomS := good_of (by simp only [c_laws_toAtomS, List.mem_singleton]; rintro _ rfl; exact g_laws_toAtom) k_laws_toAtomS (by kernel_rfl) ⟨Try.f86, by kernel_rfl, by kernel_rfl, by kernel_rfl⟩ [tLPILI] [tLPILI]
theorem f_laws_toAtomS_eq (x0 : (List (Int × (List Int)))) : f_laws_toAtomS x0 =
    bif mkOk (x0.length : Int) then
    l1_laws_toAtomS x0 (List.replicate (Int.toNat (x0.length : Int)) ((0 : Int), ([] : List Int))) (0 : Int)
    else none :=
  (show f_laws_toAtomS x0 = (Jl (DOf c_laws_toAtomS) (irBlk a_laws_toAtomS.L b_laws_toAtomS) 0 [⟨tLPILI, x0⟩]).bind (readOuts [tLPILI]) by kernel_rfl).trans ((Jstep2 (DKOf_eq c_laws_toAtomS)).trans (by kernel_rfl))
theorem l1_laws_toAtomS_eq (v0 : (List (Int × (List Int)))) (v48 : (List (Int × (List Int)))) (v64 : Int) : l1_laws_toAtomS v0 v48 v64 =
    bif (decide (v64 < (v0.length : Int))) then
      (at? v0 v64).bind fun z1 =>
      (f_laws_toAtom z1).bind fun z2 =>
      (at? v48 v64).bind fun _ =>
      (at? v48 v64).bind fun z3 =>
      l1_laws_toAtomS v0 (v48.set (Int.toNat v64) z2) (IntKind.wrap .i64 (v64 + (1 : Int)))
    else
      some v48 :=
  (show l1_laws_toAtomS v0 v48 v64 = (Jl (DOf c_laws_toAtomS) (irBlk a_laws_toAtomS.L b_laws_toAtomS) 1 [⟨tLPILI, v0⟩, ⟨tLPILI, v48⟩, ⟨tI, v64⟩]).bind (readOuts [tLPILI]) by kernel_rfl).trans ((Jstep2 (DKOf_eq c_laws_toAtomS)).trans (by kernel_rfl))
/- loop.example/g01989/laws.toQuery -/
def s_laws_toQuery : Sig := ⟨26, [.v tPLILPILI], [(tPLILPILI, [some .sc, some mca4df])]⟩
def a_laws_toQuery : FAnn := ⟨[⟨[(0, ⟨0, [], .va⟩), (1, ⟨0, [], .va⟩), (15, ⟨0, [], .pl 2 true⟩)], [0, 1]⟩],
  (.seq (.reg [aT, aT]) (.seq (.reg [aT]) (.seq (.reg [aT, aT, aT, aT, aT]) (.seq (.reg [aT, aT, ⟨.take, 1, []⟩, aT, aT]) (.seq (.reg [aT, aT]) .none))))),
  []⟩
def b_laws_toQuery : List (Nat × Tree) := [(0, (.ins (.grp [] [.cp 16 (.k 0), .cp 17 (.k 1)] (.grp [] [.cp 32 (.c (.nil tI)), .cp 33 (.c (.nil tPILI))] .nil)) (.ins (.grp [] [.cp 48 (.c (.nil tI)), .cp 49 (.c (.nil tPILI))] .nil) (.ins (.grp [] [.cp 80 (.k 16)] (.grp [] [.call 0 [(tLI, [(.k 80)])] [[96]]] (.grp [] [.cp 48 (.k 96)] .nil))) (.ins (.grp [] [.cp 144 (.k 17)] (.grp [] [.call 1 [(tLPILI, [(.k 144)])] [[160]]] (.grp [] [.cp 49 (.k 160)] .nil))) (.ins (.grp [] [.cp 192 (.k 48), .cp 193 (.k 49)] (.grp [] [.cp 32 (.k 48), .cp 33 (.k 49)] .nil)) (.ret [(tPLILPILI, [(.k 32), (.k 33)])])))))))]
noncomputable def c_laws_toQuery : List Lf.Fn := [n_laws_toIntS, n_laws_toAtomS]
noncomputable def f_laws_toQuery : ((List Int) × (List (Int × (List Int)))) → Option (((List Int) × (List (Int × (List Int))))) := tyd [tPLILPILI] [tPLILPILI] (fnD (DOf c_laws_toQuery) s_laws_toQuery a_laws_toQuery.L b_laws_toQuery)
noncomputable def n_laws_toQuery : Lf.Fn := ⟨s_laws_toQuery, [tPLILPILI], [tPLILPILI], f_laws_toQuery⟩
theorem k_laws_toQuery : compFn Try.prog (sigsOf c_laws_toQuery) s_laws_toQuery a_laws_toQuery = some b_laws_toQuery := by kernel_rfl
theorem g_laws_toQuery : Lf.Good Try.prog n_laws_toQuery := good_of (by simp only [c_laws_toQuery, List.mem_cons, List.not_mem_nil, or_false]; rintro _ (rfl | rfl); exact g_laws_toIntS; exact g_laws_toAtomS) k_laws_toQuery (by kernel_rfl) ⟨Try.f26, by kernel_rfl, by kernel_rfl, by kernel_rfl⟩ [tPLILPILI] [tPLILPILI]
theorem f_laws_toQuery_eq (x0 : ((List Int) × (List (Int × (List Int))))) : f_laws_toQuery x0 =
    (f_laws_toIntS x0.1).bind fun z1 =>
    (f_laws_toAtomS x0.2).bind fun z2 =>
    some (z1, z2) :=
  (show f_laws_toQuery x0 = (Jl (DOf c_laws_toQuery) (irBlk a_laws_toQuery.L b_laws_toQuery) 0 [⟨tLI, x0.1⟩, ⟨tLPILI, x0.2⟩]).bind (readOuts [tPLILPILI]) by kernel_rfl).trans ((Jstep2 (DKOf_eq c_laws_toQuery)).trans (by kernel_rfl))
/- loop.example/g01989/laws.toStep -/
def s_laws_toStep : Sig := ⟨32, [.v tPII], [(tPII, [none, none])]⟩
def a_laws_toStep : FAnn := ⟨[⟨[(0, ⟨0, [], .va⟩), (1, ⟨0, [], .va⟩), (15, ⟨0, [], .pl 2 true⟩)], [0, 1]⟩],
  (.seq (.reg [aT, aT]) (.seq (.reg [aT]) (.seq (.reg [aT, aT, aT, aT]) (.seq (.reg [aT, aT, aT, aT]) (.seq (.reg [aT, aT]) .none))))),
  []⟩
def b_laws_toStep : List (Nat × Tree) := [(0, (.ins (.grp [] [.cp 16 (.k 0), .cp 17 (.k 1)] (.grp [] [.cp 32 (.c (.int .i64 (0))), .cp 33 (.c (.int .i64 (0)))] .nil)) (.ins (.grp [] [.cp 48 (.c (.int .i64 (0))), .cp 49 (.c (.int .i64 (0)))] .nil) (.ins (.grp [] [.cp 80 (.k 16)] (.grp [] [.cp 48 (.k 80)] .nil)) (.ins (.grp [] [.cp 128 (.k 17)] (.grp [] [.cp 49 (.k 128)] .nil)) (.ins (.grp [] [.cp 160 (.k 48), .cp 161 (.k 49)] (.grp [] [.cp 32 (.k 160), .cp 33 (.k 161)] .nil)) (.ret [(tPII, [(.k 32), (.k 33)])])))))))]
noncomputable def c_laws_toStep : List Lf.Fn := []
noncomputable def f_laws_toStep : (Int × Int) → Option ((Int × Int)) := tyd [tPII] [tPII] (fnD (DOf c_laws_toStep) s_laws_toStep a_laws_toStep.L b_laws_toStep)
noncomputable def n_laws_toStep : Lf.Fn := ⟨s_laws_toStep, [tPII], [tPII], f_laws_toStep⟩
theorem k_laws_toStep : compFn Try.prog (sigsOf c_laws_toStep) s_laws_toStep a_laws_toStep = some b_laws_toStep := by kernel_rfl
theorem g_laws_toStep : Lf.Good Try.prog n_laws_toStep := good_of (by intro _ h; simp [c_laws_toStep] at h) k_laws_toStep (by kernel_rfl) ⟨Try.f32, by kernel_rfl, by kernel_rfl, by kernel_rfl⟩ [tPII] [tPII]
theorem f_laws_toStep_eq (x0 : (Int × Int)) : f_laws_toStep x0 =
    some x0 :=
  (show f_laws_toStep x0 = (Jl (DOf c_laws_toStep) (irBlk a_laws_toStep.L b_laws_toStep) 0 [⟨tI, x0.1⟩, ⟨tI, x0.2⟩]).bind (readOuts [tPII]) by kernel_rfl).trans ((Jstep2 (DKOf_eq c_laws_toStep)).trans (by kernel_rfl))
/- loop.example/g01989/spec.l1In -/
def s_spec_l1In : Sig := ⟨90, [.v tI, .v tI, .v tI], [(.bool, [none])]⟩
def a_spec_l1In : FAnn := ⟨[⟨[(0, ⟨0, [], .va⟩), (15, ⟨0, [], .pl 1 false⟩), (16, ⟨0, [], .va⟩), (31, ⟨0, [], .pl 1 false⟩), (32, ⟨0, [], .va⟩), (47, ⟨0, [], .pl 1 false⟩)], [0, 16, 32]⟩],
  (.seq (.reg [aT]) (.seq (.reg [aR, aR, aT, aR, aR, aR, aT, aT, aT]) .none)),
  []⟩
def b_spec_l1In : List (Nat × Tree) := [(0, (.ins (.grp [] [.cp 96 (.c (.bool false))] .nil) (.ins (.grp [] [.cp 112 (.k 0)] (.grp [] [.cp 128 (.k 16)] (.grp [] [.bin .geq 144 (.k 112) (.k 128)] (.grp [] [.cp 160 (.k 144)] (.sel 224 160 (.grp [] [.cp 176 (.k 0)] (.grp [] [.cp 192 (.k 32)] (.grp [] [.bin .leq 208 (.k 176) (.k 192)] .nil))) (.k 208) .nil (.c (.bool false)) (.grp [] [.cp 96 (.k 224)] .nil)))))) (.ret [(.bool, [(.k 96)])]))))]
noncomputable def c_spec_l1In : List Lf.Fn := []
noncomputable def f_spec_l1In : Int → Int → Int → Option (Bool) := tyd [tI, tI, tI] [.bool] (fnD (DOf c_spec_l1In) s_spec_l1In a_spec_l1In.L b_spec_l1In)
noncomputable def n_spec_l1In : Lf.Fn := ⟨s_spec_l1In, [tI, tI, tI], [.bool], f_spec_l1In⟩
theorem k_spec_l1In : compFn Try.prog (sigsOf c_spec_l1In) s_spec_l1In a_spec_l1In = some b_spec_l1In := by kernel_rfl
theorem g_spec_l1In : Lf.Good Try.prog n_spec_l1In := good_of (by intro _ h; simp [c_spec_l1In] at h) k_spec_l1In (by kernel_rfl) ⟨Try.f90, by kernel_rfl, by kernel_rfl, by kernel_rfl⟩ [tI, tI, tI] [.bool]
theorem f_spec_l1In_eq (x0 : Int) (x1 : Int) (x2 : Int) : f_spec_l1In x0 x1 x2 =
    (bif (decide (x0 ≥ x1)) then some (decide (x0 ≤ x2)) else some false).bind fun z1 =>
    some z1 :=
  (show f_spec_l1In x0 x1 x2 = (Jl (DOf c_spec_l1In) (irBlk a_spec_l1In.L b_spec_l1In) 0 [⟨tI, x0⟩, ⟨tI, x1⟩, ⟨tI, x2⟩]).bind (readOuts [.bool]) by kernel_rfl).trans ((Jstep2 (DKOf_eq c_spec_l1In)).trans (by kernel_rfl))
/- loop.example/g01989/spec.l2Has -/
def s_spec_l2Has : Sig := ⟨91, [.v tLI, .v tI], [(.bool, [none])]⟩
def a_spec_l2Has : FAnn := ⟨[⟨[(0, ⟨0, [], .va⟩), (15, ⟨0, [], .pl 1 false⟩), (16, ⟨0, [], .va⟩), (31, ⟨0, [], .pl 1 false⟩)], [0, 16]⟩,
    ⟨[(0, ⟨0, [], .va⟩), (15, ⟨0, [], .pl 1 false⟩), (16, ⟨0, [], .va⟩), (31, ⟨0, [], .pl 1 false⟩), (80, ⟨0, [], .va⟩), (95, ⟨0, [], .pl 1 false⟩)], [0, 16, 80]⟩],
  (.seq (.reg [aT]) (.seq (.seq (.reg [aT]) (.block none (.loop 1 (.seq (.seq (.reg [aR, aR, aT, aT]) (.cond none .none .none)) (.seq (.block none (.seq (.reg [aR, aR, aT, aT, aR, aT]) (.cond none (.seq (.reg [aT]) .none) .none))) (.reg [aR, aT, aT])))))) (.seq (.reg [aT]) .none))),
  []⟩
def b_spec_l2Has : List (Nat × Tree) := [(0, (.ins (.grp [] [.cp 64 (.c (.bool false))] .nil) (.ins (.grp [] [.cp 80 (.c (.int .i64 (0)))] .nil) (.jump 1 [0, 16, 80])))),
  (1, (.ins (.grp [] [.cp 96 (.k 80)] (.grp [] [.cp 112 (.k 0)] (.grp [] [.len false 128 (.k 112)] (.grp [] [.bin .lss 144 (.k 96) (.k 128)] .nil)))) (.ite (.k 144) (.ins (.grp [] [.cp 192 (.k 0)] (.grp [] [.cp 208 (.k 80)] (.grp [] [.idx (some tI) [224] 0 (.k 192) (.k 208)] (.grp [] [.cp 240 (.k 224)] (.grp [] [.cp 256 (.k 16)] (.grp [] [.bin .eql 272 (.k 240) (.k 256)] .nil)))))) (.ite (.k 272) (.ins (.grp [] [.cp 64 (.c (.bool true))] .nil) (.ret [(.bool, [(.k 64)])])) (.ins (.grp [] [.cp 160 (.k 80)] (.grp [] [.bin .add 176 (.k 160) (.c (.int .i64 (1)))] (.grp [] [.cp 80 (.k 176)] .nil))) (.jump 1 [0, 16, 80])))) (.ins (.grp [] [.cp 64 (.c (.bool false))] .nil) (.ret [(.bool, [(.k 64)])])))))]
noncomputable def c_spec_l2Has : List Lf.Fn := []
noncomputable def f_spec_l2Has : (List Int) → Int → Option (Bool) := tyd [tLI, tI] [.bool] (fnD (DOf c_spec_l2Has) s_spec_l2Has a_spec_l2Has.L b_spec_l2Has)
noncomputable def n_spec_l2Has : Lf.Fn := ⟨s_spec_l2Has, [tLI, tI], [.bool], f_spec_l2Has⟩
noncomputable def l1_spec_l2Has (v0 : (List Int)) (v16 : Int) (v80 : Int) : Option (Bool) := (Jl (DOf c_spec_l2Has) (irBlk a_spec_l2Has.L b_spec_l2Has) 1 [⟨tLI, v0⟩, ⟨tI, v16⟩, ⟨tI, v80⟩]).bind (readOuts [.bool])
theorem k_spec_l2Has : compFn Try.prog (sigsOf c_spec_l2Has) s_spec_l2Has a_spec_l2Has = some b_spec_l2Has := by kernel_rfl
theorem g_spec_l2Has : Lf.Good Try.prog n_spec_l2Has := good_of (by intro _ h; simp [c_spec_l2Has] at h) k_spec_l2Has (by kernel_rfl) ⟨Try.f91, by kernel_rfl, by kernel_rfl, by kernel_rfl⟩ [tLI, tI] [.bool]
theorem f_spec_l2Has_eq (x0 : (List Int)) (x1 : Int) : f_spec_l2Has x0 x1 =
    l1_spec_l2Has x0 x1 (0 : Int) :=
  (show f_spec_l2Has x0 x1 = (Jl (DOf c_spec_l2Has) (irBlk a_spec_l2Has.L b_spec_l2Has) 0 [⟨tLI, x0⟩, ⟨tI, x1⟩]).bind (readOuts [.bool]) by kernel_rfl).trans ((Jstep2 (DKOf_eq c_spec_l2Has)).trans (by kernel_rfl))
theorem l1_spec_l2Has_eq (v0 : (List Int)) (v16 : Int) (v80 : Int) : l1_spec_l2Has v0 v16 v80 =
    bif (decide (v80 < (v0.length : Int))) then
      (at? v0 v80).bind fun z1 =>
      bif (z1 == v16) then
        some true
      else
        l1_spec_l2Has v0 v16 (IntKind.wrap .i64 (v80 + (1 : Int)))
    else
      some false :=
  (show l1_spec_l2Has v0 v16 v80 = (Jl (DOf c_spec_l2Has) (irBlk a_spec_l2Has.L b_spec_l2Has) 1 [⟨tLI, v0⟩, ⟨tI, v16⟩, ⟨tI, v80⟩]).bind (readOuts [.bool]) by kernel_rfl).trans ((Jstep2 (DKOf_eq c_spec_l2Has)).trans (by kernel_rfl))
/- loop.example/g01989/spec.IsVar -/
def s_spec_IsVar : Sig := ⟨102, [.v tI], [(.bool, [none])]⟩
def a_spec_IsVar : FAnn := ⟨[⟨[(0, ⟨0, [], .va⟩), (15, ⟨0, [], .pl 1 false⟩)], [0]⟩],
  (.seq (.reg [aT]) (.seq (.reg [aR, aT, aT]) .none)),
  []⟩
def b_spec_IsVar : List (Nat × Tree) := [(0, (.ins (.grp [] [.cp 32 (.c (.bool false))] .nil) (.ins (.grp [] [.cp 48 (.k 0)] (.grp [] [.call 0 [(tI, [(.k 48)]), (tI, [(.c (.int .i64 (10)))]), (tI, [(.c (.int .i64 (17)))])] [[64]]] (.grp [] [.cp 32 (.k 64)] .nil))) (.ret [(.bool, [(.k 32)])]))))]
noncomputable def c_spec_IsVar : List Lf.Fn := [n_spec_l1In]
noncomputable def f_spec_IsVar : Int → Option (Bool) := tyd [tI] [.bool] (fnD (DOf c_spec_IsVar) s_spec_IsVar a_spec_IsVar.L b_spec_IsVar)
noncomputable def n_spec_IsVar : Lf.Fn := ⟨s_spec_IsVar, [tI], [.bool], f_spec_IsVar⟩
theorem k_spec_IsVar : compFn Try.prog (sigsOf c_spec_IsVar) s_spec_IsVar a_spec_IsVar = some b_spec_IsVar := by kernel_rfl
theorem g_spec_IsVar : Lf.Good Try.prog n_spec_IsVar := good_of (by simp only [c_spec_IsVar, List.mem_singleton]; rintro _ rfl; exact g_spec_l1In) k_spec_IsVar (by kernel_rfl) ⟨Try.f102, by kernel_rfl, by kernel_rfl, by kernel_rfl⟩ [tI] [.bool]
theorem f_spec_IsVar_eq (x0 : Int) : f_spec_IsVar x0 =
    (f_spec_l1In x0 (10 : Int) (17 : Int)).bind fun z1 =>
    some z1 :=
  (show f_spec_IsVar x0 = (Jl (DOf c_spec_IsVar) (irBlk a_spec_IsVar.L b_spec_IsVar) 0 [⟨tI, x0⟩]).bind (readOuts [.bool]) by kernel_rfl).trans ((Jstep2 (DKOf_eq c_spec_IsVar)).trans (by kernel_rfl))
/- loop.example/g01989/spec.IsOnce -/
def s_spec_IsOnce : Sig := ⟨92, [.v tPLILPILI, .v tI], [(.bool, [none])]⟩
def a_spec_IsOnce : FAnn := ⟨[⟨[(0, ⟨0, [], .va⟩), (1, ⟨0, [], .va⟩), (15, ⟨0, [], .pl 2 true⟩), (16, ⟨0, [], .va⟩), (31, ⟨0, [], .pl 1 false⟩)], [0, 1, 16]⟩,
    ⟨[(16, ⟨0, [], .va⟩), (31, ⟨0, [], .pl 1 false⟩), (32, ⟨0, [], .va⟩), (33, ⟨0, [], .va⟩), (47, ⟨0, [], .bx 2⟩), (80, ⟨0, [], .va⟩), (95, ⟨0, [], .pl 1 false⟩), (96, ⟨0, [], .va⟩), (111, ⟨0, [], .pl 1 false⟩)], [16, 32, 33, 80, 96]⟩,
    ⟨[(16, ⟨0, [], .va⟩), (31, ⟨0, [], .pl 1 false⟩), (32, ⟨0, [], .va⟩), (33, ⟨0, [], .va⟩), (47, ⟨0, [], .bx 2⟩), (80, ⟨0, [], .va⟩), (95, ⟨0, [], .pl 1 false⟩), (96, ⟨0, [], .va⟩), (111, ⟨0, [], .pl 1 false⟩)], [16, 32, 33, 80, 96]⟩,
    ⟨[(16, ⟨0, [], .va⟩), (31, ⟨0, [], .pl 1 false⟩), (32, ⟨0, [], .va⟩), (33, ⟨0, [], .va⟩), (47, ⟨0, [], .bx 2⟩), (80, ⟨0, [], .va⟩), (95, ⟨0, [], .pl 1 false⟩), (112, ⟨0, [], .va⟩), (127, ⟨0, [], .pl 1 false⟩)], [16, 32, 33, 80, 112]⟩,
    ⟨[(16, ⟨0, [], .va⟩), (31, ⟨0, [], .pl 1 false⟩), (32, ⟨0, [], .va⟩), (33, ⟨0, [], .va⟩), (47, ⟨0, [], .bx 2⟩), (80, ⟨0, [], .va⟩), (95, ⟨0, [], .pl 1 false⟩), (112, ⟨0, [], .va⟩), (127, ⟨0, [], .pl 1 false⟩), (128, ⟨0, [], .va⟩), (143, ⟨0, [], .pl 1 false⟩)], [16, 32, 33, 80, 112, 128]⟩,
    ⟨[(16, ⟨0, [], .va⟩), (31, ⟨0, [], .pl 1 false⟩), (32, ⟨0, [], .va⟩), (33, ⟨0, [], .va⟩), (47, ⟨0, [], .bx 2⟩), (80, ⟨0, [], .va⟩), (95, ⟨0, [], .pl 1 false⟩), (112, ⟨0, [], .va⟩), (127, ⟨0, [], .pl 1 false⟩), (128, ⟨0, [], .va⟩), (143, ⟨0, [], .pl 1 false⟩)], [16, 32, 33, 80, 112, 128]⟩],
  (.seq (.reg [aT, aT]) (.seq (.reg [aT]) (.seq (.seq (.reg [aT]) (.block none (.loop 1 (.seq (.seq (.reg [aR, aT, aT, aT, aT]) (.cond none .none .none)) (.seq (.block none (.seq (.reg [aT, aT, aR, aT, aT, aR, aT]) (.cond (some 2) (.reg [aR, aT, aT]) .none))) (.reg [aR, aT, aT])))))) (.seq (.seq (.reg [aT]) (.block none (.loop 3 (.seq (.seq (.reg [aR, aT, aT, aT, aT]) (.cond none .none .none)) (.seq (.block none (.seq (.reg [aT]) (.block none (.loop 4 (.seq (.seq (.reg [aR, aT, aT, aR, aT, aT, aT, aT, aT]) (.cond none .none .none)) (.seq (.block none (.seq (.reg [aT, aT, aR, aT, aT, aT, aR, aT, aT, aR, aT]) (.cond (some 5) (.reg [aR, aT, aT]) .none))) (.reg [aR, aT, aT]))))))) (.reg [aR, aT, aT])))))) (.seq (.reg [aR, aT, aR, aR, aT, aT, aT]) .none))))),
  []⟩
def b_spec_IsOnce : List (Nat × Tree) := [(0, (.ins (.grp [] [.cp 32 (.k 0), .cp 33 (.k 1)] (.grp [] [.cp 64 (.c (.bool false))] .nil)) (.ins (.grp [] [.cp 80 (.c (.int .i64 (0)))] .nil) (.ins (.grp [] [.cp 96 (.c (.int .i64 (0)))] .nil) (.jump 1 [16, 32, 33, 80, 96]))))),
  (1, (.ins (.grp [] [.cp 144 (.k 96)] (.grp [] [.cp 176 (.k 32)] (.grp [] [.len false 192 (.k 176)] (.grp [] [.bin .lss 208 (.k 144) (.k 192)] .nil)))) (.ite (.k 208) (.ins (.grp [] [.cp 272 (.k 32)] (.grp [] [.cp 288 (.k 96)] (.grp [] [.idx (some tI) [304] 0 (.k 272) (.k 288)] (.grp [] [.cp 320 (.k 304)] (.grp [] [.cp 336 (.k 16)] (.grp [] [.bin .eql 352 (.k 320) (.k 336)] .nil)))))) (.ite (.k 352) (.ins (.grp [] [.cp 368 (.k 80)] (.grp [] [.bin .add 384 (.k 368) (.c (.int .i64 (2)))] (.grp [] [.cp 80 (.k 384)] .nil))) (.jump 2 [16, 32, 33, 80, 96])) (.jump 2 [16, 32, 33, 80, 96]))) (.ins (.grp [] [.cp 112 (.c (.int .i64 (0)))] .nil) (.jump 3 [16, 32, 33, 80, 112]))))),
  (2, (.ins (.grp [] [.cp 224 (.k 96)] (.grp [] [.bin .add 240 (.k 224) (.c (.int .i64 (1)))] (.grp [] [.cp 96 (.k 240)] .nil))) (.jump 1 [16, 32, 33, 80, 96]))),
  (3, (.ins (.grp [] [.cp 400 (.k 112)] (.grp [] [.cp 432 (.k 33)] (.grp [] [.len false 448 (.k 432)] (.grp [] [.bin .lss 464 (.k 400) (.k 448)] .nil)))) (.ite (.k 464) (.ins (.grp [] [.cp 128 (.c (.int .i64 (0)))] .nil) (.jump 4 [16, 32, 33, 80, 112, 128])) (.ins (.grp [] [.cp 896 (.k 16)] (.grp [] [.call 0 [(tI, [(.k 896)])] [[912]]] (.grp [] [.cp 928 (.k 912)] (.sel 976 928 (.grp [] [.cp 944 (.k 80)] (.grp [] [.bin .eql 960 (.k 944) (.c (.int .i64 (1)))] .nil)) (.k 960) .nil (.c (.bool false)) (.grp [] [.cp 64 (.k 976)] .nil))))) (.ret [(.bool, [(.k 64)])]))))),
  (4, (.ins (.grp [] [.cp 512 (.k 128)] (.grp [] [.cp 544 (.k 33)] (.grp [] [.cp 560 (.k 112)] (.grp [] [.idx (some tPILI) [576, 577] 0 (.k 544) (.k 560)] (.grp [] [.cp 592 (.k 577)] (.grp [] [.cp 608 (.k 592)] (.grp [] [.len false 624 (.k 608)] (.grp [] [.bin .lss 640 (.k 512) (.k 624)] .nil)))))))) (.ite (.k 640) (.ins (.grp [] [.cp 704 (.k 33)] (.grp [] [.cp 720 (.k 112)] (.grp [] [.idx (some tPILI) [736, 737] 0 (.k 704) (.k 720)] (.grp [] [.cp 752 (.k 737)] (.grp [] [.cp 768 (.k 752)] (.grp [] [.cp 784 (.k 128)] (.grp [] [.idx (some tI) [800] 0 (.k 768) (.k 784)] (.grp [] [.cp 816 (.k 800)] (.grp [] [.cp 832 (.k 16)] (.grp [] [.bin .eql 848 (.k 816) (.k 832)] .nil)))))))))) (.ite (.k 848) (.ins (.grp [] [.cp 864 (.k 80)] (.grp [] [.bin .add 880 (.k 864) (.c (.int .i64 (1)))] (.grp [] [.cp 80 (.k 880)] .nil))) (.jump 5 [16, 32, 33, 80, 112, 128])) (.jump 5 [16, 32, 33, 80, 112, 128]))) (.ins (.grp [] [.cp 480 (.k 112)] (.grp [] [.bin .add 496 (.k 480) (.c (.int .i64 (1)))] (.grp [] [.cp 112 (.k 496)] .nil))) (.jump 3 [16, 32, 33, 80, 112]))))),
  (5, (.ins (.grp [] [.cp 656 (.k 128)] (.grp [] [.bin .add 672 (.k 656) (.c (.int .i64 (1)))] (.grp [] [.cp 128 (.k 672)] .nil))) (.jump 4 [16, 32, 33, 80, 112, 128])))]
noncomputable def c_spec_IsOnce : List Lf.Fn := [n_spec_IsVar]
noncomputable def f_spec_IsOnce : ((List Int) × (List (Int × (List Int)))) → Int → Option (Bool) := tyd [tPLILPILI, tI] [.bool] (fnD (DOf c_spec_IsOnce) s_spec_IsOnce a_spec_IsOnce.L b_spec_IsOnce)
noncomputable def n_spec_IsOnce : Lf.Fn := ⟨s_spec_IsOnce, [tPLILPILI, tI], [.bool], f_spec_IsOnce⟩
noncomputable def l1_spec_IsOnce (v16 : Int) (v32 : (List Int)) (v33 : (List (Int × (List Int)))) (v80 : Int) (v96 : Int) : Option (Bool) := (Jl (DOf c_spec_IsOnce) (irBlk a_spec_IsOnce.L b_spec_IsOnce) 1 [⟨tI, v16⟩, ⟨tLI, v32⟩, ⟨tLPILI, v33⟩, ⟨tI, v80⟩, ⟨tI, v96⟩]).bind (readOuts [.bool])
noncomputable def l2_spec_IsOnce (v16 : Int) (v32 : (List Int)) (v33 : (List (Int × (List Int)))) (v80 : Int) (v96 : Int) : Option (Bool) := (Jl (DOf c_spec_IsOnce) (irBlk a_spec_IsOnce.L b_spec_IsOnce) 2 [⟨tI, v16⟩, ⟨tLI, v32⟩, ⟨tLPILI, v33⟩, ⟨tI, v80⟩, ⟨tI, v96⟩]).bind (readOuts [.bool])
noncomputable def l3_spec_IsOnce (v16 : Int) (v32 : (List Int)) (v33 : (List (Int × (List Int)))) (v80 : Int) (v112 : Int) : Option (Bool) := (Jl (DOf c_spec_IsOnce) (irBlk a_spec_IsOnce.L b_spec_IsOnce) 3 [⟨tI, v16⟩, ⟨tLI, v32⟩, ⟨tLPILI, v33⟩, ⟨tI, v80⟩, ⟨tI, v112⟩]).bind (readOuts [.bool])
noncomputable def l4_spec_IsOnce (v16 : Int) (v32 : (List Int)) (v33 : (List (Int × (List Int)))) (v80 : Int) (v112 : Int) (v128 : Int) : Option (Bool) := (Jl (DOf c_spec_IsOnce) (irBlk a_spec_IsOnce.L b_spec_IsOnce) 4 [⟨tI, v16⟩, ⟨tLI, v32⟩, ⟨tLPILI, v33⟩, ⟨tI, v80⟩, ⟨tI, v112⟩, ⟨tI, v128⟩]).bind (readOuts [.bool])
noncomputable def l5_spec_IsOnce (v16 : Int) (v32 : (List Int)) (v33 : (List (Int × (List Int)))) (v80 : Int) (v112 : Int) (v128 : Int) : Option (Bool) := (Jl (DOf c_spec_IsOnce) (irBlk a_spec_IsOnce.L b_spec_IsOnce) 5 [⟨tI, v16⟩, ⟨tLI, v32⟩, ⟨tLPILI, v33⟩, ⟨tI, v80⟩, ⟨tI, v112⟩, ⟨tI, v128⟩]).bind (readOuts [.bool])
theorem k_spec_IsOnce : compFn Try.prog (sigsOf c_spec_IsOnce) s_spec_IsOnce a_spec_IsOnce = some b_spec_IsOnce := by kernel_rfl
theorem g_spec_IsOnce : Lf.Good Try.prog n_spec_IsOnce := good_of (by simp only [c_spec_IsOnce, List.mem_singleton]; rintro _ rfl; exact g_spec_IsVar) k_spec_IsOnce (by kernel_rfl) ⟨Try.f92, by kernel_rfl, by kernel_rfl, by kernel_rfl⟩ [tPLILPILI, tI] [.bool]
theorem f_spec_IsOnce_eq (x0 : ((List Int) × (List (Int × (List Int))))) (x1 : Int) : f_spec_IsOnce x0 x1 =
    l1_spec_IsOnce x1 x0.1 x0.2 (0 : Int) (0 : Int) :=
  (show f_spec_IsOnce x0 x1 = (Jl (DOf c_spec_IsOnce) (irBlk a_spec_IsOnce.L b_spec_IsOnce) 0 [⟨tLI, x0.1⟩, ⟨tLPILI, x0.2⟩, ⟨tI, x1⟩]).bind (readOuts [.bool]) by kernel_rfl).trans ((Jstep2 (DKOf_eq c_spec_IsOnce)).trans (by kernel_rfl))
theorem l1_spec_IsOnce_eq (v16 : Int) (v32 : (List Int)) (v33 : (List (Int × (List Int)))) (v80 : Int) (v96 : Int) : l1_spec_IsOnce v16 v32 v33 v80 v96 =
    bif (decide (v96 < (v32.length : Int))) then
      (at? v32 v96).bind fun z1 =>
      bif (z1 == v16) then
        l2_spec_IsOnce v16 v32 v33 (IntKind.wrap .i64 (v80 + (2 : Int))) v96
      else
        l2_spec_IsOnce v16 v32 v33 v80 v96
    else
      l3_spec_IsOnce v16 v32 v33 v80 (0 : Int) :=
  (show l1_spec_IsOnce v16 v32 v33 v80 v96 = (Jl (DOf c_spec_IsOnce) (irBlk a_spec_IsOnce.L b_spec_IsOnce) 1 [⟨tI, v16⟩, ⟨tLI, v32⟩, ⟨tLPILI, v33⟩, ⟨tI, v80⟩, ⟨tI, v96⟩]).bind (readOuts [.bool]) by kernel_rfl).trans ((Jstep2 (DKOf_eq c_spec_IsOnce)).trans (by kernel_rfl))
theorem l2_spec_IsOnce_eq (v16 : Int) (v32 : (List Int)) (v33 : (List (Int × (List Int)))) (v80 : Int) (v96 : Int) : l2_spec_IsOnce v16 v32 v33 v80 v96 =
    l1_spec_IsOnce v16 v32 v33 v80 (IntKind.wrap .i64 (v96 + (1 : Int))) :=
  (show l2_spec_IsOnce v16 v32 v33 v80 v96 = (Jl (DOf c_spec_IsOnce) (irBlk a_spec_IsOnce.L b_spec_IsOnce) 2 [⟨tI, v16⟩, ⟨tLI, v32⟩, ⟨tLPILI, v33⟩, ⟨tI, v80⟩, ⟨tI, v96⟩]).bind (readOuts [.bool]) by kernel_rfl).trans ((Jstep2 (DKOf_eq c_spec_IsOnce)).trans (by kernel_rfl))
theorem l3_spec_IsOnce_eq (v16 : Int) (v32 : (List Int)) (v33 : (List (Int × (List Int)))) (v80 : Int) (v112 : Int) : l3_spec_IsOnce v16 v32 v33 v80 v112 =
    bif (decide (v112 < (v33.length : Int))) then
      l4_spec_IsOnce v16 v32 v33 v80 v112 (0 : Int)
    else
      (f_spec_IsVar v16).bind fun z1 =>
      (bif z1 then some (v80 == (1 : Int)) else some false).bind fun z2 =>
      some z2 :=
  (show l3_spec_IsOnce v16 v32 v33 v80 v112 = (Jl (DOf c_spec_IsOnce) (irBlk a_spec_IsOnce.L b_spec_IsOnce) 3 [⟨tI, v16⟩, ⟨tLI, v32⟩, ⟨tLPILI, v33⟩, ⟨tI, v80⟩, ⟨tI, v112⟩]).bind (readOuts [.bool]) by kernel_rfl).trans ((Jstep2 (DKOf_eq c_spec_IsOnce)).trans (by kernel_rfl))
theorem l4_spec_IsOnce_eq (v16 : Int) (v32 : (List Int)) (v33 : (List (Int × (List Int)))) (v80 : Int) (v112 : Int) (v128 : Int) : l4_spec_IsOnce v16 v32 v33 v80 v112 v128 =
    (at? v33 v112).bind fun z1 =>
    bif (decide (v128 < (z1.2.length : Int))) then
      (at? v33 v112).bind fun z2 =>
      (at? z2.2 v128).bind fun z3 =>
      bif (z3 == v16) then
        l5_spec_IsOnce v16 v32 v33 (IntKind.wrap .i64 (v80 + (1 : Int))) v112 v128
      else
        l5_spec_IsOnce v16 v32 v33 v80 v112 v128
    else
      l3_spec_IsOnce v16 v32 v33 v80 (IntKind.wrap .i64 (v112 + (1 : Int))) :=
  (show l4_spec_IsOnce v16 v32 v33 v80 v112 v128 = (Jl (DOf c_spec_IsOnce) (irBlk a_spec_IsOnce.L b_spec_IsOnce) 4 [⟨tI, v16⟩, ⟨tLI, v32⟩, ⟨tLPILI, v33⟩, ⟨tI, v80⟩, ⟨tI, v112⟩, ⟨tI, v128⟩]).bind (readOuts [.bool]) by kernel_rfl).trans ((Jstep2 (DKOf_eq c_spec_IsOnce)).trans (by kernel_rfl))
theorem l5_spec_IsOnce_eq (v16 : Int) (v32 : (List Int)) (v33 : (List (Int × (List Int)))) (v80 : Int) (v112 : Int) (v128 : Int) : l5_spec_IsOnce v16 v32 v33 v80 v112 v128 =
    l4_spec_IsOnce v16 v32 v33 v80 v112 (IntKind.wrap .i64 (v128 + (1 : Int))) :=
  (show l5_spec_IsOnce v16 v32 v33 v80 v112 v128 = (Jl (DOf c_spec_IsOnce) (irBlk a_spec_IsOnce.L b_spec_IsOnce) 5 [⟨tI, v16⟩, ⟨tLI, v32⟩, ⟨tLPILI, v33⟩, ⟨tI, v80⟩, ⟨tI, v112⟩, ⟨tI, v128⟩]).bind (readOuts [.bool]) by kernel_rfl).trans ((Jstep2 (DKOf_eq c_spec_IsOnce)).trans (by kernel_rfl))
/- loop.example/g01989/spec.IsExistential -/
def s_spec_IsExistential : Sig := ⟨31, [.v tLPIPLIPIPII, .v tPLILPILI, .v tPII], [(.bool, [none])]⟩
def a_spec_IsExistential : FAnn := ⟨[⟨[(0, ⟨0, [], .va⟩), (15, ⟨0, [], .pl 1 false⟩), (16, ⟨0, [], .va⟩), (17, ⟨0, [], .va⟩), (31, ⟨0, [], .pl 2 true⟩), (32, ⟨0, [], .va⟩), (33, ⟨0, [], .va⟩), (47, ⟨0, [], .pl 2 true⟩)], [0, 16, 17, 32, 33]⟩,
    ⟨[(0, ⟨0, [], .va⟩), (15, ⟨0, [], .pl 1 false⟩), (64, ⟨0, [], .va⟩), (65, ⟨0, [], .va⟩), (79, ⟨0, [], .bx 2⟩), (80, ⟨0, [], .va⟩), (81, ⟨0, [], .va⟩), (95, ⟨0, [], .bx 2⟩), (112, ⟨0, [], .va⟩), (127, ⟨0, [], .pl 1 false⟩)], [0, 64, 65, 80, 81, 112]⟩],
  (.seq (.reg [aT, aT, aT]) (.seq (.seq (.reg [aT, aT, aT, aT, aT, aT, aT, aT, aR, aT, aT, aR, aT, aT, aT, aT, aT, aR, aR, aT, aT, aT, aT, aT, aT, aT, aT, aT, aT, aT, aT, aT, aT]) (.cond none (.seq (.reg [aT]) .none) .none)) (.seq (.seq (.reg [aT]) (.block none (.loop 1 (.seq (.seq (.reg [aR, aT, aT, aT, aT, aT, aT, aT, aT, aT]) (.cond none .none .none)) (.seq (.block none (.seq (.reg [aR, aT, aT, aT, aT, aT, aR, ⟨.take, 1, []⟩, aT, aR, aT, aT, aT, aT, aT, aT, aT, aT, aR, aT, aT, ⟨.take, 2, []⟩, aT, aT]) (.cond none (.seq (.reg [aT]) .none) .none))) (.reg [aR, aT, aT])))))) (.seq (.reg [aT]) .none)))),
  []⟩
def b_spec_IsExistential : List (Nat × Tree) := [(0, (.ins (.grp [] [.cp 64 (.k 16), .cp 65 (.k 17)] (.grp [] [.cp 80 (.k 32), .cp 81 (.k 33)] (.grp [] [.cp 96 (.c (.bool false))] .nil))) (.ins (.grp [] [.cp 144 (.k 80)] (.grp [] [.cp 176 (.k 65)] (.grp [] [.len false 192 (.k 176)] (.grp [] [.bin .sub 208 (.k 192) (.c (.int .i64 (1)))] (.grp [] [.call 0 [(tI, [(.k 144)]), (tI, [(.c (.int .i64 (0)))]), (tI, [(.k 208)])] [[224]]] (.grp [] [.not 240 (.k 224)] (.grp [] [.cp 256 (.k 240)] (.sel 384 256 .nil (.c (.bool true)) (.grp [] [.cp 288 (.k 81)] (.grp [] [.cp 304 (.k 0)] (.grp [] [.len false 320 (.k 304)] (.grp [] [.bin .sub 336 (.k 320) (.c (.int .i64 (1)))] (.grp [] [.call 0 [(tI, [(.k 288)]), (tI, [(.c (.int .i64 (0)))]), (tI, [(.k 336)])] [[352]]] (.grp [] [.not 368 (.k 352)] .nil)))))) (.k 368) (.grp [] [.cp 400 (.k 384)] (.sel 640 400 .nil (.c (.bool true)) (.grp [] [.cp 416 (.k 0)] (.grp [] [.cp 448 (.k 81)] (.grp [] [.idx (some tPIPLIPIPII) [464, 465, 466, 467, 468] 0 (.k 416) (.k 448)] (.grp [] [.cp 480 (.k 464)] (.grp [] [.cp 496 (.k 480)] (.grp [] [.cp 528 (.k 65)] (.grp [] [.cp 560 (.k 80)] (.grp [] [.idx (some tPILI) [576, 577] 0 (.k 528) (.k 560)] (.grp [] [.cp 592 (.k 576)] (.grp [] [.cp 608 (.k 592)] (.grp [] [.bin .neq 624 (.k 496) (.k 608)] .nil))))))))))) (.k 624) .nil)))))))))) (.ite (.k 640) (.ins (.grp [] [.cp 96 (.c (.bool false))] .nil) (.ret [(.bool, [(.k 96)])])) (.ins (.grp [] [.cp 112 (.c (.int .i64 (0)))] .nil) (.jump 1 [0, 64, 65, 80, 81, 112])))))),
  (1, (.ins (.grp [] [.cp 656 (.k 112)] (.grp [] [.cp 688 (.k 65)] (.grp [] [.cp 720 (.k 80)] (.grp [] [.idx (some tPILI) [736, 737] 0 (.k 688) (.k 720)] (.grp [] [.cp 752 (.k 737)] (.grp [] [.cp 768 (.k 752)] (.grp [] [.len false 784 (.k 768)] (.grp [] [.bin .lss 800 (.k 656) (.k 784)] .nil)))))))) (.ite (.k 800) (.ins (.grp [] [.cp 848 (.k 0)] (.grp [] [.cp 880 (.k 81)] (.grp [] [.idx (some tPIPLIPIPII) [896, 897, 898, 899, 900] 0 (.k 848) (.k 880)] (.grp [] [.cp 912 (.k 897)] (.grp [] [.cp 928 (.k 912)] (.grp [] [.cp 944 (.k 112)] (.grp [] [.call 1 [(tLI, [(.k 928)]), (tI, [(.k 944)])] [[960]]] (.grp [] [.not 976 (.k 960)] (.grp [] [.cp 992 (.k 976)] (.sel 1216 992 (.grp [] [.cp 1008 (.k 64), .cp 1009 (.k 65)] (.grp [] [.cp 1040 (.k 65)] (.grp [] [.cp 1072 (.k 80)] (.grp [] [.idx (some tPILI) [1088, 1089] 0 (.k 1040) (.k 1072)] (.grp [] [.cp 1104 (.k 1089)] (.grp [] [.cp 1120 (.k 1104)] (.grp [] [.cp 1136 (.k 112)] (.grp [] [.idx (some tI) [1152] 0 (.k 1120) (.k 1136)] (.grp [] [.cp 1168 (.k 1152)] (.grp [] [.call 2 [(tPLILPILI, [(.k 1008), (.k 1009)]), (tI, [(.k 1168)])] [[1184]]] (.grp [] [.not 1200 (.k 1184)] .nil))))))))))) (.k 1200) .nil (.c (.bool false)) .nil)))))))))) (.ite (.k 1216) (.ins (.grp [] [.cp 96 (.c (.bool false))] .nil) (.ret [(.bool, [(.k 96)])])) (.ins (.grp [] [.cp 816 (.k 112)] (.grp [] [.bin .add 832 (.k 816) (.c (.int .i64 (1)))] (.grp [] [.cp 112 (.k 832)] .nil))) (.jump 1 [0, 64, 65, 80, 81, 112])))) (.ins (.grp [] [.cp 96 (.c (.bool true))] .nil) (.ret [(.bool, [(.k 96)])])))))]
noncomputable def c_spec_IsExistential : List Lf.Fn := [n_spec_l1In, n_spec_l2Has, n_spec_IsOnce]
noncomputable def f_spec_IsExistential : (List (Int × ((List Int) × (Int × (Int × Int))))) → ((List Int) × (List (Int × (List Int)))) → (Int × Int) → Option (Bool) := tyd [tLPIPLIPIPII, tPLILPILI, tPII] [.bool] (fnD (DOf c_spec_IsExistential) s_spec_IsExistential a_spec_IsExistential.L b_spec_IsExistential)
noncomputable def n_spec_IsExistential : Lf.Fn := ⟨s_spec_IsExistential, [tLPIPLIPIPII, tPLILPILI, tPII], [.bool], f_spec_IsExistential⟩
noncomputable def l1_spec_IsExistential (v0 : (List (Int × ((List Int) × (Int × (Int × Int)))))) (v64 : (List Int)) (v65 : (List (Int × (List Int)))) (v80 : Int) (v81 : Int) (v112 : Int) : Option (Bool) := (Jl (DOf c_spec_IsExistential) (irBlk a_spec_IsExistential.L b_spec_IsExistential) 1 [⟨tLPIPLIPIPII, v0⟩, ⟨tLI, v64⟩, ⟨tLPILI, v65⟩, ⟨tI, v80⟩, ⟨tI, v81⟩, ⟨tI, v112⟩]).bind (readOuts [.bool])
theorem k_spec_IsExistential : compFn Try.prog (sigsOf c_spec_IsExistential) s_spec_IsExistential a_spec_IsExistential = some b_spec_IsExistential := by kernel_rfl
theorem g_spec_IsExistential : Lf.Good Try.prog n_spec_IsExistential := good_of (by simp only [c_spec_IsExistential, List.mem_cons, List.not_mem_nil, or_false]; rintro _ (rfl | rfl | rfl); exact g_spec_l1In; exact g_spec_l2Has; exact g_spec_IsOnce) k_spec_IsExistential (by kernel_rfl) ⟨Try.f31, by kernel_rfl, by kernel_rfl, by kernel_rfl⟩ [tLPIPLIPIPII, tPLILPILI, tPII] [.bool]
theorem f_spec_IsExistential_eq (x0 : (List (Int × ((List Int) × (Int × (Int × Int)))))) (x1 : ((List Int) × (List (Int × (List Int))))) (x2 : (Int × Int)) : f_spec_IsExistential x0 x1 x2 =
    (f_spec_l1In x2.1 (0 : Int) (IntKind.wrap .i64 ((x1.2.length : Int) - (1 : Int)))).bind fun z1 =>
    (bif (!z1) then some true else (f_spec_l1In x2.2 (0 : Int) (IntKind.wrap .i64 ((x0.length : Int) - (1 : Int)))).bind fun z3 =>
      some (!z3)).bind fun z2 =>
    (bif z2 then some true else (at? x0 x2.2).bind fun z5 =>
      (at? x1.2 x2.1).bind fun z6 =>
      some (z5.1 != z6.1)).bind fun z4 =>
    bif z4 then
      some false
    else
      l1_spec_IsExistential x0 x1.1 x1.2 x2.1 x2.2 (0 : Int) :=
  (show f_spec_IsExistential x0 x1 x2 = (Jl (DOf c_spec_IsExistential) (irBlk a_spec_IsExistential.L b_spec_IsExistential) 0 [⟨tLPIPLIPIPII, x0⟩, ⟨tLI, x1.1⟩, ⟨tLPILI, x1.2⟩, ⟨tI, x2.1⟩, ⟨tI, x2.2⟩]).bind (readOuts [.bool]) by kernel_rfl).trans ((Jstep2 (DKOf_eq c_spec_IsExistential)).trans (by kernel_rfl))
theorem l1_spec_IsExistential_eq (v0 : (List (Int × ((List Int) × (Int × (Int × Int)))))) (v64 : (List Int)) (v65 : (List (Int × (List Int)))) (v80 : Int) (v81 : Int) (v112 : Int) : l1_spec_IsExistential v0 v64 v65 v80 v81 v112 =
    (at? v65 v80).bind fun z1 =>
    bif (decide (v112 < (z1.2.length : Int))) then
      (at? v0 v81).bind fun z2 =>
      (f_spec_l2Has z2.2.1 v112).bind fun z3 =>
      (bif (!z3) then (at? v65 v80).bind fun z5 =>
        (at? z5.2 v112).bind fun z6 =>
        (f_spec_IsOnce (v64, v65) z6).bind fun z7 =>
        some (!z7) else some false).bind fun z4 =>
      bif z4 then
        some false
      else
        l1_spec_IsExistential v0 v64 v65 v80 v81 (IntKind.wrap .i64 (v112 + (1 : Int)))
    else
      some true :=
  (show l1_spec_IsExistential v0 v64 v65 v80 v81 v112 = (Jl (DOf c_spec_IsExistential) (irBlk a_spec_IsExistential.L b_spec_IsExistential) 1 [⟨tLPIPLIPIPII, v0⟩, ⟨tLI, v64⟩, ⟨tLPILI, v65⟩, ⟨tI, v80⟩, ⟨tI, v81⟩, ⟨tI, v112⟩]).bind (readOuts [.bool]) by kernel_rfl).trans ((Jstep2 (DKOf_eq c_spec_IsExistential)).trans (by kernel_rfl))
/- loop.example/g01989/impl.within -/
def s_impl_within : Sig := ⟨93, [.v tI, .v tI, .v tI], [(.bool, [none])]⟩
def a_impl_within : FAnn := ⟨[⟨[(0, ⟨0, [], .va⟩), (15, ⟨0, [], .pl 1 false⟩), (16, ⟨0, [], .va⟩), (31, ⟨0, [], .pl 1 false⟩), (32, ⟨0, [], .va⟩), (47, ⟨0, [], .pl 1 false⟩)], [0, 16, 32]⟩],
  (.seq (.reg [aT]) (.seq (.reg [aR, aR, aT, aR, aR, aR, aT, aT, aT]) .none)),
  []⟩
def b_impl_within : List (Nat × Tree) := [(0, (.ins (.grp [] [.cp 96 (.c (.bool false))] .nil) (.ins (.grp [] [.cp 112 (.k 0)] (.grp [] [.cp 128 (.k 16)] (.grp [] [.bin .geq 144 (.k 112) (.k 128)] (.grp [] [.cp 160 (.k 144)] (.sel 224 160 (.grp [] [.cp 176 (.k 0)] (.grp [] [.cp 192 (.k 32)] (.grp [] [.bin .leq 208 (.k 176) (.k 192)] .nil))) (.k 208) .nil (.c (.bool false)) (.grp [] [.cp 96 (.k 224)] .nil)))))) (.ret [(.bool, [(.k 96)])]))))]
noncomputable def c_impl_within : List Lf.Fn := []
noncomputable def f_impl_within : Int → Int → Int → Option (Bool) := tyd [tI, tI, tI] [.bool] (fnD (DOf c_impl_within) s_impl_within a_impl_within.L b_impl_within)
noncomputable def n_impl_within : Lf.Fn := ⟨s_impl_within, [tI, tI, tI], [.bool], f_impl_within⟩
theorem k_impl_within : compFn Try.prog (sigsOf c_impl_within) s_impl_within a_impl_within = some b_impl_within := by kernel_rfl
theorem g_impl_within : Lf.Good Try.prog n_impl_within := good_of (by intro _ h; simp [c_impl_within] at h) k_impl_within (by kernel_rfl) ⟨Try.f93, by kernel_rfl, by kernel_rfl, by kernel_rfl⟩ [tI, tI, tI] [.bool]
theorem f_impl_within_eq (x0 : Int) (x1 : Int) (x2 : Int) : f_impl_within x0 x1 x2 =
    (bif (decide (x0 ≥ x1)) then some (decide (x0 ≤ x2)) else some false).bind fun z1 =>
    some z1 :=
  (show f_impl_within x0 x1 x2 = (Jl (DOf c_impl_within) (irBlk a_impl_within.L b_impl_within) 0 [⟨tI, x0⟩, ⟨tI, x1⟩, ⟨tI, x2⟩]).bind (readOuts [.bool]) by kernel_rfl).trans ((Jstep2 (DKOf_eq c_impl_within)).trans (by kernel_rfl))
/- slices.Index[[]int,int] -/
def s_slices_Index_int : Sig := ⟨177, [.v tLI, .v tI], [(tI, [none])]⟩
def a_slices_Index_int : FAnn := ⟨[⟨[(0, ⟨0, [], .va⟩), (15, ⟨0, [], .pl 1 false⟩), (16, ⟨0, [], .va⟩), (31, ⟨0, [], .pl 1 false⟩)], [0, 16]⟩,
    ⟨[(0, ⟨0, [], .va⟩), (15, ⟨0, [], .pl 1 false⟩), (16, ⟨0, [], .va⟩), (31, ⟨0, [], .pl 1 false⟩), (112, ⟨0, [], .va⟩), (127, ⟨0, [], .pl 1 false⟩), (128, ⟨0, [], .va⟩), (143, ⟨0, [], .pl 1 false⟩)], [0, 16, 112, 128]⟩],
  (.seq (.reg [aT]) (.seq (.seq (.reg [aR, aT, aR]) (.block none (.loop 1 (.seq (.reg [aT]) (.seq (.cond none .none .none) (.seq (.block none (.seq (.reg [aR, aT]) (.seq (.reg [aR, aR, aR, aT, aT, aT]) (.cond none (.seq (.reg [aR, aT]) .none) .none)))) (.reg [aT, aR]))))))) (.seq (.reg [aT]) .none))),
  []⟩
def b_slices_Index_int : List (Nat × Tree) := [(0, (.ins (.grp [] [.cp 64 (.c (.int .i64 (0)))] .nil) (.ins (.grp [] [.cp 96 (.k 0)] (.grp [] [.len false 112 (.k 96)] (.grp [] [.cp 128 (.c (.int .i64 (0)))] .nil))) (.jump 1 [0, 16, 112, 128])))),
  (1, (.ins (.grp [] [.bin .lss 144 (.k 128) (.k 112)] .nil) (.ite (.k 144) (.ins (.grp [] [.cp 160 (.k 128)] (.grp [] [.cp 80 (.k 160)] .nil)) (.ins (.grp [] [.cp 176 (.k 16)] (.grp [] [.cp 192 (.k 0)] (.grp [] [.cp 208 (.k 80)] (.grp [] [.idx (some tI) [224] 0 (.k 192) (.k 208)] (.grp [] [.cp 240 (.k 224)] (.grp [] [.bin .eql 256 (.k 176) (.k 240)] .nil)))))) (.ite (.k 256) (.ins (.grp [] [.cp 272 (.k 80)] (.grp [] [.cp 64 (.k 272)] .nil)) (.ret [(tI, [(.k 64)])])) (.ins (.grp [] [.bin .add 288 (.k 128) (.c (.int .i64 (1)))] (.grp [] [.cp 128 (.k 288)] .nil)) (.jump 1 [0, 16, 112, 128]))))) (.ins (.grp [] [.cp 64 (.c (.int .i64 (-1)))] .nil) (.ret [(tI, [(.k 64)])])))))]
noncomputable def c_slices_Index_int : List Lf.Fn := []
noncomputable def f_slices_Index_int : (List Int) → Int → Option (Int) := tyd [tLI, tI] [tI] (fnD (DOf c_slices_Index_int) s_slices_Index_int a_slices_Index_int.L b_slices_Index_int)
noncomputable def n_slices_Index_int : Lf.Fn := ⟨s_slices_Index_int, [tLI, tI], [tI], f_slices_Index_int⟩
noncomputable def l1_slices_Index_int (v0 : (List Int)) (v16 : Int) (v112 : Int) (v128 : Int) : Option (Int) := (Jl (DOf c_slices_Index_int) (irBlk a_slices_Index_int.L b_slices_Index_int) 1 [⟨tLI, v0⟩, ⟨tI, v16⟩, ⟨tI, v112⟩, ⟨tI, v128⟩]).bind (readOuts [tI])
theorem k_slices_Index_int : compFn Try.prog (sigsOf c_slices_Index_int) s_slices_Index_int a_slices_Index_int = some b_slices_Index_int := by kernel_rfl
theorem g_slices_Index_int : Lf.Good Try.prog n_slices_Index_int := good_of (by intro _ h; simp [c_slices_Index_int] at h) k_slices_Index_int (by kernel_rfl) ⟨Try.f177, by kernel_rfl, by kernel_rfl, by kernel_rfl⟩ [tLI, tI] [tI]
theorem f_slices_Index_int_eq (x0 : (List Int)) (x1 : Int) : f_slices_Index_int x0 x1 =
    l1_slices_Index_int x0 x1 (x0.length : Int) (0 : Int) :=
  (show f_slices_Index_int x0 x1 = (Jl (DOf c_slices_Index_int) (irBlk a_slices_Index_int.L b_slices_Index_int) 0 [⟨tLI, x0⟩, ⟨tI, x1⟩]).bind (readOuts [tI]) by kernel_rfl).trans ((Jstep2 (DKOf_eq c_slices_Index_int)).trans (by kernel_rfl))
theorem l1_slices_Index_int_eq (v0 : (List Int)) (v16 : Int) (v112 : Int) (v128 : Int) : l1_slices_Index_int v0 v16 v112 v128 =
    bif (decide (v128 < v112)) then
      (at? v0 v128).bind fun z1 =>
      bif (v16 == z1) then
        some v128
      else
        l1_slices_Index_int v0 v16 v112 (IntKind.wrap .i64 (v128 + (1 : Int)))
    else
      some (-1 : Int) :=
  (show l1_slices_Index_int v0 v16 v112 v128 = (Jl (DOf c_slices_Index_int) (irBlk a_slices_Index_int.L b_slices_Index_int) 1 [⟨tLI, v0⟩, ⟨tI, v16⟩, ⟨tI, v112⟩, ⟨tI, v128⟩]).bind (readOuts [tI]) by kernel_rfl).trans ((Jstep2 (DKOf_eq c_slices_Index_int)).trans (by kernel_rfl))
/- slices.Contains[[]int,int] -/
def s_slices_Contains_int : Sig := ⟨152, [.v tLI, .v tI], [(.bool, [none])]⟩
def a_slices_Contains_int : FAnn := ⟨[⟨[(0, ⟨0, [], .va⟩), (15, ⟨0, [], .pl 1 false⟩), (16, ⟨0, [], .va⟩), (31, ⟨0, [], .pl 1 false⟩)], [0, 16]⟩],
  (.seq (.reg [aT]) (.seq (.reg [aR, aR, aT, aT, aT]) .none)),
  []⟩
def b_slices_Contains_int : List (Nat × Tree) := [(0, (.ins (.grp [] [.cp 64 (.c (.bool false))] .nil) (.ins (.grp [] [.cp 80 (.k 0)] (.grp [] [.cp 96 (.k 16)] (.grp [] [.call 0 [(tLI, [(.k 80)]), (tI, [(.k 96)])] [[112]]] (.grp [] [.bin .geq 128 (.k 112) (.c (.int .i64 (0)))] (.grp [] [.cp 64 (.k 128)] .nil))))) (.ret [(.bool, [(.k 64)])]))))]
noncomputable def c_slices_Contains_int : List Lf.Fn := [n_slices_Index_int]
noncomputable def f_slices_Contains_int : (List Int) → Int → Option (Bool) := tyd [tLI, tI] [.bool] (fnD (DOf c_slices_Contains_int) s_slices_Contains_int a_slices_Contains_int.L b_slices_Contains_int)
noncomputable def n_slices_Contains_int : Lf.Fn := ⟨s_slices_Contains_int, [tLI, tI], [.bool], f_slices_Contains_int⟩
theorem k_slices_Contains_int : compFn Try.prog (sigsOf c_slices_Contains_int) s_slices_Contains_int a_slices_Contains_int = some b_slices_Contains_int := by kernel_rfl
theorem g_slices_Contains_int : Lf.Good Try.prog n_slices_Contains_int := good_of (by simp only [c_slices_Contains_int, List.mem_singleton]; rintro _ rfl; exact g_slices_Index_int) k_slices_Contains_int (by kernel_rfl) ⟨Try.f152, by kernel_rfl, by kernel_rfl, by kernel_rfl⟩ [tLI, tI] [.bool]
theorem f_slices_Contains_int_eq (x0 : (List Int)) (x1 : Int) : f_slices_Contains_int x0 x1 =
    (f_slices_Index_int x0 x1).bind fun z1 =>
    some (decide (z1 ≥ (0 : Int))) :=
  (show f_slices_Contains_int x0 x1 = (Jl (DOf c_slices_Contains_int) (irBlk a_slices_Contains_int.L b_slices_Contains_int) 0 [⟨tLI, x0⟩, ⟨tI, x1⟩]).bind (readOuts [.bool]) by kernel_rfl).trans ((Jstep2 (DKOf_eq c_slices_Contains_int)).trans (by kernel_rfl))
/- loop.example/g01989/impl.bit -/
def s_impl_bit : Sig := ⟨178, [.v .bool], [(tI, [none])]⟩
def a_impl_bit : FAnn := ⟨[⟨[(0, ⟨0, [], .va⟩), (15, ⟨0, [], .pl 1 false⟩)], [0]⟩],
  (.seq (.reg [aT]) (.seq (.seq (.reg [aR]) (.cond none (.seq (.reg [aT]) .none) .none)) (.seq (.reg [aT]) .none))),
  []⟩
def b_impl_bit : List (Nat × Tree) := [(0, (.ins (.grp [] [.cp 32 (.c (.int .i64 (0)))] .nil) (.ins (.grp [] [.cp 48 (.k 0)] .nil) (.ite (.k 48) (.ins (.grp [] [.cp 32 (.c (.int .i64 (1)))] .nil) (.ret [(tI, [(.k 32)])])) (.ins (.grp [] [.cp 32 (.c (.int .i64 (0)))] .nil) (.ret [(tI, [(.k 32)])]))))))]
noncomputable def c_impl_bit : List Lf.Fn := []
noncomputable def f_impl_bit : Bool → Option (Int) := tyd [.bool] [tI] (fnD (DOf c_impl_bit) s_impl_bit a_impl_bit.L b_impl_bit)
noncomputable def n_impl_bit : Lf.Fn := ⟨s_impl_bit, [.bool], [tI], f_impl_bit⟩
theorem k_impl_bit : compFn Try.prog (sigsOf c_impl_bit) s_impl_bit a_impl_bit = some b_impl_bit := by kernel_rfl
theorem g_impl_bit : Lf.Good Try.prog n_impl_bit := good_of (by intro _ h; simp [c_impl_bit] at h) k_impl_bit (by kernel_rfl) ⟨Try.f178, by kernel_rfl, by kernel_rfl, by kernel_rfl⟩ [.bool] [tI]
theorem f_impl_bit_eq (x0 : Bool) : f_impl_bit x0 =
    bif x0 then
      some (1 : Int)
    else
      some (0 : Int) :=
  (show f_impl_bit x0 = (Jl (DOf c_impl_bit) (irBlk a_impl_bit.L b_impl_bit) 0 [⟨.bool, x0⟩]).bind (readOuts [tI]) by kernel_rfl).trans ((Jstep2 (DKOf_eq c_impl_bit)).trans (by kernel_rfl))
/- loop.example/g01989/impl.IsVar -/
def s_impl_IsVar : Sig := ⟨155, [.v tI], [(.bool, [none])]⟩
def a_impl_IsVar : FAnn := ⟨[⟨[(0, ⟨0, [], .va⟩), (15, ⟨0, [], .pl 1 false⟩)], [0]⟩],
  (.seq (.reg [aT]) (.seq (.reg [aR, aT, aT]) .none)),
  []⟩
def b_impl_IsVar : List (Nat × Tree) := [(0, (.ins (.grp [] [.cp 32 (.c (.bool false))] .nil) (.ins (.grp [] [.cp 48 (.k 0)] (.grp [] [.call 0 [(tI, [(.k 48)]), (tI, [(.c (.int .i64 (10)))]), (tI, [(.c (.int .i64 (17)))])] [[64]]] (.grp [] [.cp 32 (.k 64)] .nil))) (.ret [(.bool, [(.k 32)])]))))]
noncomputable def c_impl_IsVar : List Lf.Fn := [n_impl_within]
noncomputable def f_impl_IsVar : Int → Option (Bool) := tyd [tI] [.bool] (fnD (DOf c_impl_IsVar) s_impl_IsVar a_impl_IsVar.L b_impl_IsVar)
noncomputable def n_impl_IsVar : Lf.Fn := ⟨s_impl_IsVar, [tI], [.bool], f_impl_IsVar⟩
theorem k_impl_IsVar : compFn Try.prog (sigsOf c_impl_IsVar) s_impl_IsVar a_impl_IsVar = some b_impl_IsVar := by kernel_rfl
theorem g_impl_IsVar : Lf.Good Try.prog n_impl_IsVar := good_of (by simp only [c_impl_IsVar, List.mem_singleton]; rintro _ rfl; exact g_impl_within) k_impl_IsVar (by kernel_rfl) ⟨Try.f155, by kernel_rfl, by kernel_rfl, by kernel_rfl⟩ [tI] [.bool]
theorem f_impl_IsVar_eq (x0 : Int) : f_impl_IsVar x0 =
    (f_impl_within x0 (10 : Int) (17 : Int)).bind fun z1 =>
    some z1 :=
  (show f_impl_IsVar x0 = (Jl (DOf c_impl_IsVar) (irBlk a_impl_IsVar.L b_impl_IsVar) 0 [⟨tI, x0⟩]).bind (readOuts [.bool]) by kernel_rfl).trans ((Jstep2 (DKOf_eq c_impl_IsVar)).trans (by kernel_rfl))
/- loop.example/g01989/impl.IsOnce -/
def s_impl_IsOnce : Sig := ⟨153, [.v tPLILPILI, .v tI], [(.bool, [none])]⟩
def a_impl_IsOnce : FAnn := ⟨[⟨[(0, ⟨0, [], .va⟩), (1, ⟨0, [], .va⟩), (15, ⟨0, [], .pl 2 true⟩), (16, ⟨0, [], .va⟩), (31, ⟨0, [], .pl 1 false⟩)], [0, 1, 16]⟩,
    ⟨[(16, ⟨0, [], .va⟩), (31, ⟨0, [], .pl 1 false⟩), (32, ⟨0, [], .va⟩), (33, ⟨0, [], .va⟩), (47, ⟨0, [], .bx 2⟩), (80, ⟨0, [], .va⟩), (95, ⟨0, [], .pl 1 false⟩), (176, ⟨0, [], .va⟩), (191, ⟨0, [], .pl 1 false⟩), (192, ⟨0, [], .va⟩), (207, ⟨0, [], .pl 1 false⟩), (208, ⟨0, [], .va⟩), (223, ⟨0, [], .pl 1 false⟩)], [16, 32, 33, 80, 176, 192, 208]⟩,
    ⟨[(16, ⟨0, [], .va⟩), (31, ⟨0, [], .pl 1 false⟩), (32, ⟨0, [], .va⟩), (33, ⟨0, [], .va⟩), (47, ⟨0, [], .bx 2⟩), (80, ⟨0, [], .va⟩), (95, ⟨0, [], .pl 1 false⟩), (176, ⟨0, [], .va⟩), (191, ⟨0, [], .pl 1 false⟩), (192, ⟨0, [], .va⟩), (207, ⟨0, [], .pl 1 false⟩), (208, ⟨0, [], .va⟩), (223, ⟨0, [], .pl 1 false⟩), (288, ⟨0, [], .va⟩), (303, ⟨0, [], .pl 1 false⟩), (304, ⟨0, [], .va⟩), (319, ⟨0, [], .pl 1 false⟩), (320, ⟨0, [], .va⟩), (335, ⟨0, [], .pl 1 false⟩)], [16, 32, 33, 80, 176, 192, 208, 288, 304, 320]⟩],
  (.seq (.reg [aT, aT]) (.seq (.reg [aT]) (.seq (.seq (.reg [aT, aT, aT, aR]) (.block none (.loop 1 (.seq (.reg [aT]) (.seq (.cond none .none .none) (.seq (.block none (.seq (.reg [aT, aT, aT, aT]) (.seq (.reg [aT, aT, aT, aR]) (.block none (.loop 2 (.seq (.reg [aT]) (.seq (.cond none .none .none) (.seq (.block none (.seq (.reg [aT, aT, aT]) (.reg [aR, aR, aR, aT, aT, aT, aT]))) (.reg [aT, aR]))))))))) (.reg [aT, aR]))))))) (.seq (.reg [aR, ⟨.take, 1, []⟩, aR, aR, aT, aT, aR, aT, aT, aR, ⟨.take, 2, []⟩, aT, aT, aT]) .none)))),
  []⟩
def b_impl_IsOnce : List (Nat × Tree) := [(0, (.ins (.grp [] [.cp 32 (.k 0), .cp 33 (.k 1)] (.grp [] [.cp 64 (.c (.bool false))] .nil)) (.ins (.grp [] [.cp 80 (.c (.int .i64 (0)))] .nil) (.ins (.grp [] [.cp 176 (.k 33)] (.grp [] [.len false 192 (.k 176)] (.grp [] [.cp 208 (.c (.int .i64 (0)))] .nil))) (.jump 1 [16, 32, 33, 80, 176, 192, 208]))))),
  (1, (.ins (.grp [] [.bin .lss 224 (.k 208) (.k 192)] .nil) (.ite (.k 224) (.ins (.grp [] [.idx (some tPILI) [240, 241] 0 (.k 176) (.k 208)] (.grp [] [.cp 256 (.k 240), .cp 257 (.k 241)] (.grp [] [.cp 112 (.c (.int .i64 (0))), .cp 113 (.c (.nil tI))] (.grp [] [.cp 112 (.k 256), .cp 113 (.k 257)] .nil)))) (.ins (.grp [] [.cp 288 (.k 113)] (.grp [] [.len false 304 (.k 288)] (.grp [] [.cp 320 (.c (.int .i64 (0)))] .nil))) (.jump 2 [16, 32, 33, 80, 176, 192, 208, 288, 304, 320]))) (.ins (.grp [] [.cp 512 (.k 16)] (.grp [] [.call 1 [(tI, [(.k 512)])] [[528]]] (.grp [] [.cp 544 (.k 528)] (.sel 592 544 (.grp [] [.cp 560 (.k 80)] (.grp [] [.bin .eql 576 (.k 560) (.c (.int .i64 (1)))] .nil)) (.k 576) .nil (.c (.bool false)) (.grp [] [.cp 608 (.k 592)] (.sel 704 608 (.grp [] [.cp 640 (.k 32)] (.grp [] [.cp 656 (.k 16)] (.grp [] [.call 2 [(tLI, [(.k 640)]), (tI, [(.k 656)])] [[672]]] (.grp [] [.not 688 (.k 672)] .nil)))) (.k 688) .nil (.c (.bool false)) (.grp [] [.cp 64 (.k 704)] .nil))))))) (.ret [(.bool, [(.k 64)])]))))),
  (2, (.ins (.grp [] [.bin .lss 336 (.k 320) (.k 304)] .nil) (.ite (.k 336) (.ins (.grp [] [.idx (some tI) [352] 0 (.k 288) (.k 320)] (.grp [] [.cp 368 (.k 352)] (.grp [] [.cp 144 (.k 368)] .nil))) (.ins (.grp [] [.cp 384 (.k 80)] (.grp [] [.cp 400 (.k 144)] (.grp [] [.cp 416 (.k 16)] (.grp [] [.bin .eql 432 (.k 400) (.k 416)] (.grp [] [.call 0 [(.bool, [(.k 432)])] [[448]]] (.grp [] [.bin .add 464 (.k 384) (.k 448)] (.grp [] [.cp 80 (.k 464)] .nil))))))) (.ins (.grp [] [.bin .add 480 (.k 320) (.c (.int .i64 (1)))] (.grp [] [.cp 320 (.k 480)] .nil)) (.jump 2 [16, 32, 33, 80, 176, 192, 208, 288, 304, 320])))) (.ins (.grp [] [.bin .add 496 (.k 208) (.c (.int .i64 (1)))] (.grp [] [.cp 208 (.k 496)] .nil)) (.jump 1 [16, 32, 33, 80, 176, 192, 208])))))]
noncomputable def c_impl_IsOnce : List Lf.Fn := [n_impl_bit, n_impl_IsVar, n_slices_Contains_int]
noncomputable def f_impl_IsOnce : ((List Int) × (List (Int × (List Int)))) → Int → Option (Bool) := tyd [tPLILPILI, tI] [.bool] (fnD (DOf c_impl_IsOnce) s_impl_IsOnce a_impl_IsOnce.L b_impl_IsOnce)
noncomputable def n_impl_IsOnce : Lf.Fn := ⟨s_impl_IsOnce, [tPLILPILI, tI], [.bool], f_impl_IsOnce⟩
noncomputable def l1_impl_IsOnce (v16 : Int) (v32 : (List Int)) (v33 : (List (Int × (List Int)))) (v80 : Int) (v176 : (List (Int × (List Int)))) (v192 : Int) (v208 : Int) : Option (Bool) := (Jl (DOf c_impl_IsOnce) (irBlk a_impl_IsOnce.L b_impl_IsOnce) 1 [⟨tI, v16⟩, ⟨tLI, v32⟩, ⟨tLPILI, v33⟩, ⟨tI, v80⟩, ⟨tLPILI, v176⟩, ⟨tI, v192⟩, ⟨tI, v208⟩]).bind (readOuts [.bool])
noncomputable def l2_impl_IsOnce (v16 : Int) (v32 : (List Int)) (v33 : (List (Int × (List Int)))) (v80 : Int) (v176 : (List (Int × (List Int)))) (v192 : Int) (v208 : Int) (v288 : (List Int)) (v304 : Int) (v320 : Int) : Option (Bool) := (Jl (DOf c_impl_IsOnce) (irBlk a_impl_IsOnce.L b_impl_IsOnce) 2 [⟨tI, v16⟩, ⟨tLI, v32⟩, ⟨tLPILI, v33⟩, ⟨tI, v80⟩, ⟨tLPILI, v176⟩, ⟨tI, v192⟩, ⟨tI, v208⟩, ⟨tLI, v288⟩, ⟨tI, v304⟩, ⟨tI, v320⟩]).bind (readOuts [.bool])
theorem k_impl_IsOnce : compFn Try.prog (sigsOf c_impl_IsOnce) s_impl_IsOnce a_impl_IsOnce = some b_impl_IsOnce := by kernel_rfl
theorem g_impl_IsOnce : Lf.Good Try.prog n_impl_IsOnce := good_of (by simp only [c_impl_IsOnce, List.mem_cons, List.not_mem_nil, or_false]; rintro _ (rfl | rfl | rfl); exact g_impl_bit; exact g_impl_IsVar; exact g_slices_Contains_int) k_impl_IsOnce (by kernel_rfl) ⟨Try.f153, by kernel_rfl, by kernel_rfl, by kernel_rfl⟩ [tPLILPILI, tI] [.bool]
theorem f_impl_IsOnce_eq (x0 : ((List Int) × (List (Int × (List Int))))) (x1 : Int) : f_impl_IsOnce x0 x1 =
    l1_impl_IsOnce x1 x0.1 x0.2 (0 : Int) x0.2 (x0.2.length : Int) (0 : Int) :=
  (show f_impl_IsOnce x0 x1 = (Jl (DOf c_impl_IsOnce) (irBlk a_impl_IsOnce.L b_impl_IsOnce) 0 [⟨tLI, x0.1⟩, ⟨tLPILI, x0.2⟩, ⟨tI, x1⟩]).bind (readOuts [.bool]) by kernel_rfl).trans ((Jstep2 (DKOf_eq c_impl_IsOnce)).trans (by kernel_rfl))
theorem l1_impl_IsOnce_eq (v16 : Int) (v32 : (List Int)) (v33 : (List (Int × (List Int)))) (v80 : Int) (v176 : (List (Int × (List Int)))) (v192 : Int) (v208 : Int) : l1_impl_IsOnce v16 v32 v33 v80 v176 v192 v208 =
    bif (decide (v208 < v192)) then
      (at? v176 v208).bind fun z1 =>
      l2_impl_IsOnce v16 v32 v33 v80 v176 v192 v208 z1.2 (z1.2.length : Int) (0 : Int)
    else
      (f_impl_IsVar v16).bind fun z2 =>
      (bif z2 then some (v80 == (1 : Int)) else some false).bind fun z3 =>
      (bif z3 then (f_slices_Contains_int v32 v16).bind fun z5 =>
        some (!z5) else some false).bind fun z4 =>
      some z4 :=
  (show l1_impl_IsOnce v16 v32 v33 v80 v176 v192 v208 = (Jl (DOf c_impl_IsOnce) (irBlk a_impl_IsOnce.L b_impl_IsOnce) 1 [⟨tI, v16⟩, ⟨tLI, v32⟩, ⟨tLPILI, v33⟩, ⟨tI, v80⟩, ⟨tLPILI, v176⟩, ⟨tI, v192⟩, ⟨tI, v208⟩]).bind (readOuts [.bool]) by kernel_rfl).trans ((Jstep2 (DKOf_eq c_impl_IsOnce)).trans (by kernel_rfl))
theorem l2_impl_IsOnce_eq (v16 : Int) (v32 : (List Int)) (v33 : (List (Int × (List Int)))) (v80 : Int) (v176 : (List (Int × (List Int)))) (v192 : Int) (v208 : Int) (v288 : (List Int)) (v304 : Int) (v320 : Int) : l2_impl_IsOnce v16 v32 v33 v80 v176 v192 v208 v288 v304 v320 =
    bif (decide (v320 < v304)) then
      (at? v288 v320).bind fun z1 =>
      (f_impl_bit (z1 == v16)).bind fun z2 =>
      l2_impl_IsOnce v16 v32 v33 (IntKind.wrap .i64 (v80 + z2)) v176 v192 v208 v288 v304 (IntKind.wrap .i64 (v320 + (1 : Int)))
    else
      l1_impl_IsOnce v16 v32 v33 v80 v176 v192 (IntKind.wrap .i64 (v208 + (1 : Int))) :=
  (show l2_impl_IsOnce v16 v32 v33 v80 v176 v192 v208 v288 v304 v320 = (Jl (DOf c_impl_IsOnce) (irBlk a_impl_IsOnce.L b_impl_IsOnce) 2 [⟨tI, v16⟩, ⟨tLI, v32⟩, ⟨tLPILI, v33⟩, ⟨tI, v80⟩, ⟨tLPILI, v176⟩, ⟨tI, v192⟩, ⟨tI, v208⟩, ⟨tLI, v288⟩, ⟨tI, v304⟩, ⟨tI, v320⟩]).bind (readOuts [.bool]) by kernel_rfl).trans ((Jstep2 (DKOf_eq c_impl_IsOnce)).trans (by kernel_rfl))
/- loop.example/g01989/impl.isExistential -/
def s_impl_isExistential : Sig := ⟨94, [.v tPIPLIPIPII, .v tPLILPILI, .v tPILI], [(.bool, [none])]⟩
def a_impl_isExistential : FAnn := ⟨[⟨[(0, ⟨0, [], .va⟩), (1, ⟨0, [], .va⟩), (2, ⟨0, [], .va⟩), (3, ⟨0, [], .va⟩), (4, ⟨0, [], .va⟩), (15, ⟨0, [], .pl 5 true⟩), (16, ⟨0, [], .va⟩), (17, ⟨0, [], .va⟩), (31, ⟨0, [], .pl 2 true⟩), (32, ⟨0, [], .va⟩), (33, ⟨0, [], .va⟩), (47, ⟨0, [], .pl 2 true⟩)], [0, 1, 2, 3, 4, 16, 17, 32, 33]⟩,
    ⟨[(48, ⟨0, [], .va⟩), (49, ⟨0, [], .va⟩), (50, ⟨0, [], .va⟩), (51, ⟨0, [], .va⟩), (52, ⟨0, [], .va⟩), (63, ⟨0, [], .bx 5⟩), (64, ⟨0, [], .va⟩), (65, ⟨0, [], .va⟩), (79, ⟨0, [], .bx 2⟩), (80, ⟨0, [], .va⟩), (81, ⟨0, [], .va⟩), (95, ⟨0, [], .bx 2⟩), (160, ⟨0, [], .va⟩), (175, ⟨0, [], .pl 1 false⟩), (176, ⟨0, [], .va⟩), (191, ⟨0, [], .pl 1 false⟩), (192, ⟨0, [], .va⟩), (207, ⟨0, [], .pl 1 false⟩)], [48, 49, 50, 51, 52, 64, 65, 80, 81, 160, 176, 192]⟩],
  (.seq (.reg [aT, aT, aT, aT]) (.seq (.seq (.reg [aT, aT, aT, aR]) (.block none (.loop 1 (.seq (.reg [aT]) (.seq (.cond none .none .none) (.seq (.block none (.seq (.reg [aR, aT, aT, aT, aT]) (.seq (.reg [aT, aT, aR, aT, aT, aR, aT, aR, ⟨.take, 1, []⟩, aT, aT]) (.cond none (.seq (.reg [aT]) .none) .none)))) (.reg [aT, aR]))))))) (.seq (.reg [aT, aT, aT, aT, aT, aT]) .none))),
  []⟩
def b_impl_isExistential : List (Nat × Tree) := [(0, (.ins (.grp [] [.cp 48 (.k 0), .cp 49 (.k 1), .cp 50 (.k 2), .cp 51 (.k 3), .cp 52 (.k 4)] (.grp [] [.cp 64 (.k 16), .cp 65 (.k 17)] (.grp [] [.cp 80 (.k 32), .cp 81 (.k 33)] (.grp [] [.cp 96 (.c (.bool false))] .nil)))) (.ins (.grp [] [.cp 160 (.k 81)] (.grp [] [.len false 176 (.k 160)] (.grp [] [.cp 192 (.c (.int .i64 (0)))] .nil))) (.jump 1 [48, 49, 50, 51, 52, 64, 65, 80, 81, 160, 176, 192])))),
  (1, (.ins (.grp [] [.bin .lss 208 (.k 192) (.k 176)] .nil) (.ite (.k 208) (.ins (.grp [] [.cp 224 (.k 192)] (.grp [] [.idx (some tI) [240] 0 (.k 160) (.k 192)] (.grp [] [.cp 256 (.k 240)] (.grp [] [.cp 112 (.k 224)] (.grp [] [.cp 128 (.k 256)] .nil))))) (.ins (.grp [] [.cp 288 (.k 49)] (.grp [] [.cp 304 (.k 112)] (.grp [] [.call 0 [(tLI, [(.k 288)]), (tI, [(.k 304)])] [[320]]] (.grp [] [.not 336 (.k 320)] (.grp [] [.cp 352 (.k 336)] (.sel 432 352 (.grp [] [.cp 368 (.k 64), .cp 369 (.k 65)] (.grp [] [.cp 384 (.k 128)] (.grp [] [.call 1 [(tPLILPILI, [(.k 368), (.k 369)]), (tI, [(.k 384)])] [[400]]] (.grp [] [.not 416 (.k 400)] .nil)))) (.k 416) .nil (.c (.bool false)) .nil)))))) (.ite (.k 432) (.ins (.grp [] [.cp 96 (.c (.bool false))] .nil) (.ret [(.bool, [(.k 96)])])) (.ins (.grp [] [.bin .add 448 (.k 192) (.c (.int .i64 (1)))] (.grp [] [.cp 192 (.k 448)] .nil)) (.jump 1 [48, 49, 50, 51, 52, 64, 65, 80, 81, 160, 176, 192]))))) (.ins (.grp [] [.cp 480 (.k 48)] (.grp [] [.cp 512 (.k 80)] (.grp [] [.bin .eql 528 (.k 480) (.k 512)] (.grp [] [.cp 96 (.k 528)] .nil)))) (.ret [(.bool, [(.k 96)])])))))]
noncomputable def c_impl_isExistential : List Lf.Fn := [n_slices_Contains_int, n_impl_IsOnce]
noncomputable def f_impl_isExistential : (Int × ((List Int) × (Int × (Int × Int)))) → ((List Int) × (List (Int × (List Int)))) → (Int × (List Int)) → Option (Bool) := tyd [tPIPLIPIPII, tPLILPILI, tPILI] [.bool] (fnD (DOf c_impl_isExistential) s_impl_isExistential a_impl_isExistential.L b_impl_isExistential)
noncomputable def n_impl_isExistential : Lf.Fn := ⟨s_impl_isExistential, [tPIPLIPIPII, tPLILPILI, tPILI], [.bool], f_impl_isExistential⟩
noncomputable def l1_impl_isExistential (v48 : Int) (v49 : (List Int)) (v50 : Int) (v51 : Int) (v52 : Int) (v64 : (List Int)) (v65 : (List (Int × (List Int)))) (v80 : Int) (v81 : (List Int)) (v160 : (List Int)) (v176 : Int) (v192 : Int) : Option (Bool) := (Jl (DOf c_impl_isExistential) (irBlk a_impl_isExistential.L b_impl_isExistential) 1 [⟨tI, v48⟩, ⟨tLI, v49⟩, ⟨tI, v50⟩, ⟨tI, v51⟩, ⟨tI, v52⟩, ⟨tLI, v64⟩, ⟨tLPILI, v65⟩, ⟨tI, v80⟩, ⟨tLI, v81⟩, ⟨tLI, v160⟩, ⟨tI, v176⟩, ⟨tI, v192⟩]).bind (readOuts [.bool])
theorem k_impl_isExistential : compFn Try.prog (sigsOf c_impl_isExistential) s_impl_isExistential a_impl_isExistential = some b_impl_isExistential := by kernel_rfl
theorem g_impl_isExistential : Lf.Good Try.prog n_impl_isExistential := good_of (by simp only [c_impl_isExistential, List.mem_cons, List.not_mem_nil, or_false]; rintro _ (rfl | rfl); exact g_slices_Contains_int; exact g_impl_IsOnce) k_impl_isExistential (by kernel_rfl) ⟨Try.f94, by kernel_rfl, by kernel_rfl, by kernel_rfl⟩ [tPIPLIPIPII, tPLILPILI, tPILI] [.bool]
theorem f_impl_isExistential_eq (x0 : (Int × ((List Int) × (Int × (Int × Int))))) (x1 : ((List Int) × (List (Int × (List Int))))) (x2 : (Int × (List Int))) : f_impl_isExistential x0 x1 x2 =
    l1_impl_isExistential x0.1 x0.2.1 x0.2.2.1 x0.2.2.2.1 x0.2.2.2.2 x1.1 x1.2 x2.1 x2.2 x2.2 (x2.2.length : Int) (0 : Int) :=
  (show f_impl_isExistential x0 x1 x2 = (Jl (DOf c_impl_isExistential) (irBlk a_impl_isExistential.L b_impl_isExistential) 0 [⟨tI, x0.1⟩, ⟨tLI, x0.2.1⟩, ⟨tI, x0.2.2.1⟩, ⟨tI, x0.2.2.2.1⟩, ⟨tI, x0.2.2.2.2⟩, ⟨tLI, x1.1⟩, ⟨tLPILI, x1.2⟩, ⟨tI, x2.1⟩, ⟨tLI, x2.2⟩]).bind (readOuts [.bool]) by kernel_rfl).trans ((Jstep2 (DKOf_eq c_impl_isExistential)).trans (by kernel_rfl))
theorem l1_impl_isExistential_eq (v48 : Int) (v49 : (List Int)) (v50 : Int) (v51 : Int) (v52 : Int) (v64 : (List Int)) (v65 : (List (Int × (List Int)))) (v80 : Int) (v81 : (List Int)) (v160 : (List Int)) (v176 : Int) (v192 : Int) : l1_impl_isExistential v48 v49 v50 v51 v52 v64 v65 v80 v81 v160 v176 v192 =
    bif (decide (v192 < v176)) then
      (at? v160 v192).bind fun z1 =>
      (f_slices_Contains_int v49 v192).bind fun z2 =>
      (bif (!z2) then (f_impl_IsOnce (v64, v65) z1).bind fun z4 =>
        some (!z4) else some false).bind fun z3 =>
      bif z3 then
        some false
      else
        l1_impl_isExistential v48 v49 v50 v51 v52 v64 v65 v80 v81 v160 v176 (IntKind.wrap .i64 (v192 + (1 : Int)))
    else
      some (v48 == v80) :=
  (show l1_impl_isExistential v48 v49 v50 v51 v52 v64 v65 v80 v81 v160 v176 v192 = (Jl (DOf c_impl_isExistential) (irBlk a_impl_isExistential.L b_impl_isExistential) 1 [⟨tI, v48⟩, ⟨tLI, v49⟩, ⟨tI, v50⟩, ⟨tI, v51⟩, ⟨tI, v52⟩, ⟨tLI, v64⟩, ⟨tLPILI, v65⟩, ⟨tI, v80⟩, ⟨tLI, v81⟩, ⟨tLI, v160⟩, ⟨tI, v176⟩, ⟨tI, v192⟩]).bind (readOuts [.bool]) by kernel_rfl).trans ((Jstep2 (DKOf_eq c_impl_isExistential)).trans (by kernel_rfl))
/- loop.example/g01989/impl.IsExistential -/
def s_impl_IsExistential : Sig := ⟨33, [.v tLPIPLIPIPII, .v tPLILPILI, .v tPII], [(.bool, [none])]⟩
def a_impl_IsExistential : FAnn := ⟨[⟨[(0, ⟨0, [], .va⟩), (15, ⟨0, [], .pl 1 false⟩), (16, ⟨0, [], .va⟩), (17, ⟨0, [], .va⟩), (31, ⟨0, [], .pl 2 true⟩), (32, ⟨0, [], .va⟩), (33, ⟨0, [], .va⟩), (47, ⟨0, [], .pl 2 true⟩)], [0, 16, 17, 32, 33]⟩],
  (.seq (.reg [aT, aT, aT]) (.seq (.reg [aT, aT, aT, aT, aT, aT, aT, aR, aT, aT, aR, aT, aT, aT, aT, aR, aR, aT, aT, aT, aT, aT, aT, aT, aT, aT, aT, aT, ⟨.take, 1, []⟩, aT, aT]) .none)),
  []⟩
def b_impl_IsExistential : List (Nat × Tree) := [(0, (.ins (.grp [] [.cp 64 (.k 16), .cp 65 (.k 17)] (.grp [] [.cp 80 (.k 32), .cp 81 (.k 33)] (.grp [] [.cp 96 (.c (.bool false))] .nil))) (.ins (.grp [] [.cp 128 (.k 80)] (.grp [] [.cp 160 (.k 65)] (.grp [] [.len false 176 (.k 160)] (.grp [] [.bin .sub 192 (.k 176) (.c (.int .i64 (1)))] (.grp [] [.call 0 [(tI, [(.k 128)]), (tI, [(.c (.int .i64 (0)))]), (tI, [(.k 192)])] [[208]]] (.grp [] [.cp 224 (.k 208)] (.sel 336 224 (.grp [] [.cp 256 (.k 81)] (.grp [] [.cp 272 (.k 0)] (.grp [] [.len false 288 (.k 272)] (.grp [] [.bin .sub 304 (.k 288) (.c (.int .i64 (1)))] (.grp [] [.call 0 [(tI, [(.k 256)]), (tI, [(.c (.int .i64 (0)))]), (tI, [(.k 304)])] [[320]]] .nil))))) (.k 320) .nil (.c (.bool false)) (.grp [] [.cp 352 (.k 336)] (.sel 576 352 (.grp [] [.cp 368 (.k 0)] (.grp [] [.cp 400 (.k 81)] (.grp [] [.idx (some tPIPLIPIPII) [416, 417, 418, 419, 420] 0 (.k 368) (.k 400)] (.grp [] [.cp 432 (.k 416), .cp 433 (.k 417), .cp 434 (.k 418), .cp 435 (.k 419), .cp 436 (.k 420)] (.grp [] [.cp 448 (.k 64), .cp 449 (.k 65)] (.grp [] [.cp 480 (.k 65)] (.grp [] [.cp 512 (.k 80)] (.grp [] [.idx (some tPILI) [528, 529] 0 (.k 480) (.k 512)] (.grp [] [.cp 544 (.k 528), .cp 545 (.k 529)] (.grp [] [.call 1 [(tPIPLIPIPII, [(.k 432), (.k 433), (.k 434), (.k 435), (.k 436)]), (tPLILPILI, [(.k 448), (.k 449)]), (tPILI, [(.k 544), (.k 545)])] [[560]]] .nil)))))))))) (.k 560) .nil (.c (.bool false)) (.grp [] [.cp 96 (.k 576)] .nil)))))))))) (.ret [(.bool, [(.k 96)])]))))]
noncomputable def c_impl_IsExistential : List Lf.Fn := [n_impl_within, n_impl_isExistential]
noncomputable def f_impl_IsExistential : (List (Int × ((List Int) × (Int × (Int × Int))))) → ((List Int) × (List (Int × (List Int)))) → (Int × Int) → Option (Bool) := tyd [tLPIPLIPIPII, tPLILPILI, tPII] [.bool] (fnD (DOf c_impl_IsExistential) s_impl_IsExistential a_impl_IsExistential.L b_impl_IsExistential)
noncomputable def n_impl_IsExistential : Lf.Fn := ⟨s_impl_IsExistential, [tLPIPLIPIPII, tPLILPILI, tPII], [.bool], f_impl_IsExistential⟩
theorem k_impl_IsExistential : compFn Try.prog (sigsOf c_impl_IsExistential) s_impl_IsExistential a_impl_IsExistential = some b_impl_IsExistential := by kernel_rfl
theorem g_impl_IsExistential : Lf.Good Try.prog n_impl_IsExistential := good_of (by simp only [c_impl_IsExistential, List.mem_cons, List.not_mem_nil, or_false]; rintro _ (rfl | rfl); exact g_impl_within; exact g_impl_isExistential) k_impl_IsExistential (by kernel_rfl) ⟨Try.f33, by kernel_rfl, by kernel_rfl, by kernel_rfl⟩ [tLPIPLIPIPII, tPLILPILI, tPII] [.bool]
theorem f_impl_IsExistential_eq (x0 : (List (Int × ((List Int) × (Int × (Int × Int)))))) (x1 : ((List Int) × (List (Int × (List Int))))) (x2 : (Int × Int)) : f_impl_IsExistential x0 x1 x2 =
    (f_impl_within x2.1 (0 : Int) (IntKind.wrap .i64 ((x1.2.length : Int) - (1 : Int)))).bind fun z1 =>
    (bif z1 then (f_impl_within x2.2 (0 : Int) (IntKind.wrap .i64 ((x0.length : Int) - (1 : Int)))).bind fun z3 =>
      some z3 else some false).bind fun z2 =>
    (bif z2 then (at? x0 x2.2).bind fun z5 =>
      (at? x1.2 x2.1).bind fun z6 =>
      (f_impl_isExistential z5 x1 z6).bind fun z7 =>
      some z7 else some false).bind fun z4 =>
    some z4 :=
  (show f_impl_IsExistential x0 x1 x2 = (Jl (DOf c_impl_IsExistential) (irBlk a_impl_IsExistential.L b_impl_IsExistential) 0 [⟨tLPIPLIPIPII, x0⟩, ⟨tLI, x1.1⟩, ⟨tLPILI, x1.2⟩, ⟨tI, x2.1⟩, ⟨tI, x2.2⟩]).bind (readOuts [.bool]) by kernel_rfl).trans ((Jstep2 (DKOf_eq c_impl_IsExistential)).trans (by kernel_rfl))
/- loop.example/g01989/laws.eqIntS -/
def s_laws_eqIntS : Sig := ⟨45, [.v tLI, .v tLI], [(.bool, [none])]⟩
def a_laws_eqIntS : FAnn := ⟨[⟨[(0, ⟨0, [], .va⟩), (15, ⟨0, [], .pl 1 false⟩), (16, ⟨0, [], .va⟩), (31, ⟨0, [], .pl 1 false⟩)], [0, 16]⟩,
    ⟨[(0, ⟨0, [], .va⟩), (15, ⟨0, [], .pl 1 false⟩), (16, ⟨0, [], .va⟩), (31, ⟨0, [], .pl 1 false⟩), (80, ⟨0, [], .va⟩), (95, ⟨0, [], .pl 1 false⟩)], [0, 16, 80]⟩],
  (.seq (.reg [aT]) (.seq (.seq (.reg [aR, aT, aR, aT, aT]) (.cond none (.seq (.reg [aT]) .none) .none)) (.seq (.seq (.reg [aT]) (.block none (.loop 1 (.seq (.seq (.reg [aR, aR, aT, aT]) (.cond none .none .none)) (.seq (.block none (.seq (.reg [aR, aR, aT, aT, aR, aR, aT, aT, aT]) (.cond none (.seq (.reg [aT]) .none) .none))) (.reg [aR, aT, aT])))))) (.seq (.reg [aT]) .none)))),
  []⟩
def b_laws_eqIntS : List (Nat × Tree) := [(0, (.ins (.grp [] [.cp 64 (.c (.bool false))] .nil) (.ins (.grp [] [.cp 96 (.k 0)] (.grp [] [.len false 112 (.k 96)] (.grp [] [.cp 128 (.k 16)] (.grp [] [.len false 144 (.k 128)] (.grp [] [.bin .neq 160 (.k 112) (.k 144)] .nil))))) (.ite (.k 160) (.ins (.grp [] [.cp 64 (.c (.bool false))] .nil) (.ret [(.bool, [(.k 64)])])) (.ins (.grp [] [.cp 80 (.c (.int .i64 (0)))] .nil) (.jump 1 [0, 16, 80])))))),
  (1, (.ins (.grp [] [.cp 176 (.k 80)] (.grp [] [.cp 192 (.k 0)] (.grp [] [.len false 208 (.k 192)] (.grp [] [.bin .lss 224 (.k 176) (.k 208)] .nil)))) (.ite (.k 224) (.ins (.grp [] [.cp 272 (.k 0)] (.grp [] [.cp 288 (.k 80)] (.grp [] [.idx (some tI) [304] 0 (.k 272) (.k 288)] (.grp [] [.cp 320 (.k 304)] (.grp [] [.cp 336 (.k 16)] (.grp [] [.cp 352 (.k 80)] (.grp [] [.idx (some tI) [368] 0 (.k 336) (.k 352)] (.grp [] [.cp 384 (.k 368)] (.grp [] [.bin .neq 400 (.k 320) (.k 384)] .nil))))))))) (.ite (.k 400) (.ins (.grp [] [.cp 64 (.c (.bool false))] .nil) (.ret [(.bool, [(.k 64)])])) (.ins (.grp [] [.cp 240 (.k 80)] (.grp [] [.bin .add 256 (.k 240) (.c (.int .i64 (1)))] (.grp [] [.cp 80 (.k 256)] .nil))) (.jump 1 [0, 16, 80])))) (.ins (.grp [] [.cp 64 (.c (.bool true))] .nil) (.ret [(.bool, [(.k 64)])])))))]
noncomputable def c_laws_eqIntS : List Lf.Fn := []
noncomputable def f_laws_eqIntS : (List Int) → (List Int) → Option (Bool) := tyd [tLI, tLI] [.bool] (fnD (DOf c_laws_eqIntS) s_laws_eqIntS a_laws_eqIntS.L b_laws_eqIntS)
noncomputable def n_laws_eqIntS : Lf.Fn := ⟨s_laws_eqIntS, [tLI, tLI], [.bool], f_laws_eqIntS⟩
noncomputable def l1_laws_eqIntS (v0 : (List Int)) (v16 : (List Int)) (v80 : Int) : Option (Bool) := (Jl (DOf c_laws_eqIntS) (irBlk a_laws_eqIntS.L b_laws_eqIntS) 1 [⟨tLI, v0⟩, ⟨tLI, v16⟩, ⟨tI, v80⟩]).bind (readOuts [.bool])
theorem k_laws_eqIntS : compFn Try.prog (sigsOf c_laws_eqIntS) s_laws_eqIntS a_laws_eqIntS = some b_laws_eqIntS := by kernel_rfl
theorem g_laws_eqIntS : Lf.Good Try.prog n_laws_eqIntS := good_of (by intro _ h; simp [c_laws_eqIntS] at h) k_laws_eqIntS (by kernel_rfl) ⟨Try.f45, by kernel_rfl, by kernel_rfl, by kernel_rfl⟩ [tLI, tLI] [.bool]
theorem f_laws_eqIntS_eq (x0 : (List Int)) (x1 : (List Int)) : f_laws_eqIntS x0 x1 =
    bif ((x0.length : Int) != (x1.length : Int)) then
      some false
    else
      l1_laws_eqIntS x0 x1 (0 : Int) :=
  (show f_laws_eqIntS x0 x1 = (Jl (DOf c_laws_eqIntS) (irBlk a_laws_eqIntS.L b_laws_eqIntS) 0 [⟨tLI, x0⟩, ⟨tLI, x1⟩]).bind (readOuts [.bool]) by kernel_rfl).trans ((Jstep2 (DKOf_eq c_laws_eqIntS)).trans (by kernel_rfl))
theorem l1_laws_eqIntS_eq (v0 : (List Int)) (v16 : (List Int)) (v80 : Int) : l1_laws_eqIntS v0 v16 v80 =
    bif (decide (v80 < (v0.length : Int))) then
      (at? v0 v80).bind fun z1 =>
      (at? v16 v80).bind fun z2 =>
      bif (z1 != z2) then
        some false
      else
        l1_laws_eqIntS v0 v16 (IntKind.wrap .i64 (v80 + (1 : Int)))
    else
      some true :=
  (show l1_laws_eqIntS v0 v16 v80 = (Jl (DOf c_laws_eqIntS) (irBlk a_laws_eqIntS.L b_laws_eqIntS) 1 [⟨tLI, v0⟩, ⟨tLI, v16⟩, ⟨tI, v80⟩]).bind (readOuts [.bool]) by kernel_rfl).trans ((Jstep2 (DKOf_eq c_laws_eqIntS)).trans (by kernel_rfl))
/- loop.example/g01989/laws.eqMethod -/
def s_laws_eqMethod : Sig := ⟨89, [.v tPIPLIPIPII, .v tPIPLIPIPII], [(.bool, [none])]⟩
def a_laws_eqMethod : FAnn := ⟨[⟨[(0, ⟨0, [], .va⟩), (1, ⟨0, [], .va⟩), (2, ⟨0, [], .va⟩), (3, ⟨0, [], .va⟩), (4, ⟨0, [], .va⟩), (15, ⟨0, [], .pl 5 true⟩), (16, ⟨0, [], .va⟩), (17, ⟨0, [], .va⟩), (18, ⟨0, [], .va⟩), (19, ⟨0, [], .va⟩), (20, ⟨0, [], .va⟩), (31, ⟨0, [], .pl 5 true⟩)], [0, 1, 2, 3, 4, 16, 17, 18, 19, 20]⟩],
  (.seq (.reg [aT, aT, aT]) (.seq (.seq (.reg [aT, aT, aT, aT, aT]) (.cond none (.seq (.reg [aT]) .none) .none)) (.seq (.seq (.reg [aT, aT, aT, aT, aT, aT]) (.cond none (.seq (.reg [aT]) .none) .none)) (.seq (.seq (.reg [aT, aT, aT, aT, aT]) (.cond none (.seq (.reg [aT]) .none) .none)) (.seq (.seq (.reg [aT, aT, aT, aT, aT]) (.cond none (.seq (.reg [aT]) .none) .none)) (.seq (.seq (.reg [aT, aT, aT, aT, aT]) (.cond none (.seq (.reg [aT]) .none) .none)) (.seq (.reg [aT]) .none))))))),
  []⟩
def b_laws_eqMethod : List (Nat × Tree) := [(0, (.ins (.grp [] [.cp 32 (.k 0), .cp 33 (.k 1), .cp 34 (.k 2), .cp 35 (.k 3), .cp 36 (.k 4)] (.grp [] [.cp 48 (.k 16), .cp 49 (.k 17), .cp 50 (.k 18), .cp 51 (.k 19), .cp 52 (.k 20)] (.grp [] [.cp 64 (.c (.bool false))] .nil))) (.ins (.grp [] [.cp 96 (.k 32)] (.grp [] [.cp 128 (.k 48)] (.grp [] [.bin .neq 144 (.k 96) (.k 128)] .nil))) (.ite (.k 144) (.ins (.grp [] [.cp 64 (.c (.bool false))] .nil) (.ret [(.bool, [(.k 64)])])) (.ins (.grp [] [.cp 176 (.k 33)] (.grp [] [.cp 208 (.k 49)] (.grp [] [.call 0 [(tLI, [(.k 176)]), (tLI, [(.k 208)])] [[224]]] (.grp [] [.not 240 (.k 224)] .nil)))) (.ite (.k 240) (.ins (.grp [] [.cp 64 (.c (.bool false))] .nil) (.ret [(.bool, [(.k 64)])])) (.ins (.grp [] [.cp 272 (.k 34)] (.grp [] [.cp 304 (.k 50)] (.grp [] [.bin .neq 320 (.k 272) (.k 304)] .nil))) (.ite (.k 320) (.ins (.grp [] [.cp 64 (.c (.bool false))] .nil) (.ret [(.bool, [(.k 64)])])) (.ins (.grp [] [.cp 352 (.k 35)] (.grp [] [.cp 384 (.k 51)] (.grp [] [.bin .neq 400 (.k 352) (.k 384)] .nil))) (.ite (.k 400) (.ins (.grp [] [.cp 64 (.c (.bool false))] .nil) (.ret [(.bool, [(.k 64)])])) (.ins (.grp [] [.cp 432 (.k 36)] (.grp [] [.cp 464 (.k 52)] (.grp [] [.bin .neq 480 (.k 432) (.k 464)] .nil))) (.ite (.k 480) (.ins (.grp [] [.cp 64 (.c (.bool false))] .nil) (.ret [(.bool, [(.k 64)])])) (.ins (.grp [] [.cp 64 (.c (.bool true))] .nil) (.ret [(.bool, [(.k 64)])]))))))))))))))]
noncomputable def c_laws_eqMethod : List Lf.Fn := [n_laws_eqIntS]
noncomputable def f_laws_eqMethod : (Int × ((List Int) × (Int × (Int × Int)))) → (Int × ((List Int) × (Int × (Int × Int)))) → Option (Bool) := tyd [tPIPLIPIPII, tPIPLIPIPII] [.bool] (fnD (DOf c_laws_eqMethod) s_laws_eqMethod a_laws_eqMethod.L b_laws_eqMethod)
noncomputable def n_laws_eqMethod : Lf.Fn := ⟨s_laws_eqMethod, [tPIPLIPIPII, tPIPLIPIPII], [.bool], f_laws_eqMethod⟩
theorem k_laws_eqMethod : compFn Try.prog (sigsOf c_laws_eqMethod) s_laws_eqMethod a_laws_eqMethod = some b_laws_eqMethod := by kernel_rfl
theorem g_laws_eqMethod : Lf.Good Try.prog n_laws_eqMethod := good_of (by simp only [c_laws_eqMethod, List.mem_singleton]; rintro _ rfl; exact g_laws_eqIntS) k_laws_eqMethod (by kernel_rfl) ⟨Try.f89, by kernel_rfl, by kernel_rfl, by kernel_rfl⟩ [tPIPLIPIPII, tPIPLIPIPII] [.bool]
theorem f_laws_eqMethod_eq (x0 : (Int × ((List Int) × (Int × (Int × Int))))) (x1 : (Int × ((List Int) × (Int × (Int × Int))))) : f_laws_eqMethod x0 x1 =
    bif (x0.1 != x1.1) then
      some false
    else
      (f_laws_eqIntS x0.2.1 x1.2.1).bind fun z1 =>
      bif (!z1) then
        some false
      else
        bif (x0.2.2.1 != x1.2.2.1) then
          some false
        else
          bif (x0.2.2.2.1 != x1.2.2.2.1) then
            some false
          else
            bif (x0.2.2.2.2 != x1.2.2.2.2) then
              some false
            else
              some true :=
  (show f_laws_eqMethod x0 x1 = (Jl (DOf c_laws_eqMethod) (irBlk a_laws_eqMethod.L b_laws_eqMethod) 0 [⟨tI, x0.1⟩, ⟨tLI, x0.2.1⟩, ⟨tI, x0.2.2.1⟩, ⟨tI, x0.2.2.2.1⟩, ⟨tI, x0.2.2.2.2⟩, ⟨tI, x1.1⟩, ⟨tLI, x1.2.1⟩, ⟨tI, x1.2.2.1⟩, ⟨tI, x1.2.2.2.1⟩, ⟨tI, x1.2.2.2.2⟩]).bind (readOuts [.bool]) by kernel_rfl).trans ((Jstep2 (DKOf_eq c_laws_eqMethod)).trans (by kernel_rfl))
/- loop.example/g01989/laws.eqMethodS -/
def s_laws_eqMethodS : Sig := ⟨30, [.v tLPIPLIPIPII, .v tLPIPLIPIPII], [(.bool, [none])]⟩
def a_laws_eqMethodS : FAnn := ⟨[⟨[(0, ⟨0, [], .va⟩), (15, ⟨0, [], .pl 1 false⟩), (16, ⟨0, [], .va⟩), (31, ⟨0, [], .pl 1 false⟩)], [0, 16]⟩,
    ⟨[(0, ⟨0, [], .va⟩), (15, ⟨0, [], .pl 1 false⟩), (16, ⟨0, [], .va⟩), (31, ⟨0, [], .pl 1 false⟩), (80, ⟨0, [], .va⟩), (95, ⟨0, [], .pl 1 false⟩)], [0, 16, 80]⟩],
  (.seq (.reg [aT]) (.seq (.seq (.reg [aR, aT, aR, aT, aT]) (.cond none (.seq (.reg [aT]) .none) .none)) (.seq (.seq (.reg [aT]) (.block none (.loop 1 (.seq (.seq (.reg [aR, aR, aT, aT]) (.cond none .none .none)) (.seq (.block none (.seq (.reg [aR, aR, aT, aT, aR, aR, aT, aT, aT, aT]) (.cond none (.seq (.reg [aT]) .none) .none))) (.reg [aR, aT, aT])))))) (.seq (.reg [aT]) .none)))),
  []⟩
def b_laws_eqMethodS : List (Nat × Tree) := [(0, (.ins (.grp [] [.cp 64 (.c (.bool false))] .nil) (.ins (.grp [] [.cp 96 (.k 0)] (.grp [] [.len false 112 (.k 96)] (.grp [] [.cp 128 (.k 16)] (.grp [] [.len false 144 (.k 128)] (.grp [] [.bin .neq 160 (.k 112) (.k 144)] .nil))))) (.ite (.k 160) (.ins (.grp [] [.cp 64 (.c (.bool false))] .nil) (.ret [(.bool, [(.k 64)])])) (.ins (.grp [] [.cp 80 (.c (.int .i64 (0)))] .nil) (.jump 1 [0, 16, 80])))))),
  (1, (.ins (.grp [] [.cp 176 (.k 80)] (.grp [] [.cp 192 (.k 0)] (.grp [] [.len false 208 (.k 192)] (.grp [] [.bin .lss 224 (.k 176) (.k 208)] .nil)))) (.ite (.k 224) (.ins (.grp [] [.cp 272 (.k 0)] (.grp [] [.cp 288 (.k 80)] (.grp [] [.idx (some tPIPLIPIPII) [304, 305, 306, 307, 308] 0 (.k 272) (.k 288)] (.grp [] [.cp 320 (.k 304), .cp 321 (.k 305), .cp 322 (.k 306), .cp 323 (.k 307), .cp 324 (.k 308)] (.grp [] [.cp 336 (.k 16)] (.grp [] [.cp 352 (.k 80)] (.grp [] [.idx (some tPIPLIPIPII) [368, 369, 370, 371, 372] 0 (.k 336) (.k 352)] (.grp [] [.cp 384 (.k 368), .cp 385 (.k 369), .cp 386 (.k 370), .cp 387 (.k 371), .cp 388 (.k 372)] (.grp [] [.call 0 [(tPIPLIPIPII, [(.k 320), (.k 321), (.k 322), (.k 323), (.k 324)]), (tPIPLIPIPII, [(.k 384), (.k 385), (.k 386), (.k 387), (.k 388)])] [[400]]] (.grp [] [.not 416 (.k 400)] .nil)))))))))) (.ite (.k 416) (.ins (.grp [] [.cp 64 (.c (.bool false))] .nil) (.ret [(.bool, [(.k 64)])])) (.ins (.grp [] [.cp 240 (.k 80)] (.grp [] [.bin .add 256 (.k 240) (.c (.int .i64 (1)))] (.grp [] [.cp 80 (.k 256)] .nil))) (.jump 1 [0, 16, 80])))) (.ins (.grp [] [.cp 64 (.c (.bool true))] .nil) (.ret [(.bool, [(.k 64)])])))))]
noncomputable def c_laws_eqMethodS : List Lf.Fn := [n_laws_eqMethod]
noncomputable def f_laws_eqMethodS : (List (Int × ((List Int) × (Int × (Int × Int))))) → (List (Int × ((List Int) × (Int × (Int × Int))))) → Option (Bool) := tyd [tLPIPLIPIPII, tLPIPLIPIPII] [.bool] (fnD (DOf c_laws_eqMethodS) s_laws_eqMethodS a_laws_eqMethodS.L b_laws_eqMethodS)
noncomputable def n_laws_eqMethodS : Lf.Fn := ⟨s_laws_eqMethodS, [tLPIPLIPIPII, tLPIPLIPIPII], [.bool], f_laws_eqMethodS⟩
noncomputable def l1_laws_eqMethodS (v0 : (List (Int × ((List Int) × (Int × (Int × Int)))))) (v16 : (List (Int × ((List Int) × (Int × (Int × Int)))))) (v80 : Int) : Option (Bool) := (Jl (DOf c_laws_eqMethodS) (irBlk a_laws_eqMethodS.L b_laws_eqMethodS) 1 [⟨tLPIPLIPIPII, v0⟩, ⟨tLPIPLIPIPII, v16⟩, ⟨tI, v80⟩]).bind (readOuts [.bool])
theorem k_laws_eqMethodS : compFn Try.prog (sigsOf c_laws_eqMethodS) s_laws_eqMethodS a_laws_eqMethodS = some b_laws_eqMethodS := by kernel_rfl
theorem g_laws_eqMethodS : Lf.Good Try.prog n_laws_eqMethodS := good_of (by simp only [c_laws_eqMethodS, List.mem_singleton]; rintro _ rfl; exact g_laws_eqMethod) k_laws_eqMethodS (by kernel_rfl) ⟨Try.f30, by kernel_rfl, by kernel_rfl, by kernel_rfl⟩ [tLPIPLIPIPII, tLPIPLIPIPII] [.bool]
theorem f_laws_eqMethodS_eq (x0 : (List (Int × ((List Int) × (Int × (Int × Int)))))) (x1 : (List (Int × ((List Int) × (Int × (Int × Int)))))) : f_laws_eqMethodS x0 x1 =
    bif ((x0.length : Int) != (x1.length : Int)) then
      some false
    else
      l1_laws_eqMethodS x0 x1 (0 : Int) :=
  (show f_laws_eqMethodS x0 x1 = (Jl (DOf c_laws_eqMethodS) (irBlk a_laws_eqMethodS.L b_laws_eqMethodS) 0 [⟨tLPIPLIPIPII, x0⟩, ⟨tLPIPLIPIPII, x1⟩]).bind (readOuts [.bool]) by kernel_rfl).trans ((Jstep2 (DKOf_eq c_laws_eqMethodS)).trans (by kernel_rfl))
theorem l1_laws_eqMethodS_eq (v0 : (List (Int × ((List Int) × (Int × (Int × Int)))))) (v16 : (List (Int × ((List Int) × (Int × (Int × Int)))))) (v80 : Int) : l1_laws_eqMethodS v0 v16 v80 =
    bif (decide (v80 < (v0.length : Int))) then
      (at? v0 v80).bind fun z1 =>
      (at? v16 v80).bind fun z2 =>
      (f_laws_eqMethod z1 z2).bind fun z3 =>
      bif (!z3) then
        some false
      else
        l1_laws_eqMethodS v0 v16 (IntKind.wrap .i64 (v80 + (1 : Int)))
    else
      some true :=
  (show l1_laws_eqMethodS v0 v16 v80 = (Jl (DOf c_laws_eqMethodS) (irBlk a_laws_eqMethodS.L b_laws_eqMethodS) 1 [⟨tLPIPLIPIPII, v0⟩, ⟨tLPIPLIPIPII, v16⟩, ⟨tI, v80⟩]).bind (readOuts [.bool]) by kernel_rfl).trans ((Jstep2 (DKOf_eq c_laws_eqMethodS)).trans (by kernel_rfl))
/- loop.example/g01989/laws.eqAtom -/
def s_laws_eqAtom : Sig := ⟨151, [.v tPILI, .v tPILI], [(.bool, [none])]⟩
def a_laws_eqAtom : FAnn := ⟨[⟨[(0, ⟨0, [], .va⟩), (1, ⟨0, [], .va⟩), (15, ⟨0, [], .pl 2 true⟩), (16, ⟨0, [], .va⟩), (17, ⟨0, [], .va⟩), (31, ⟨0, [], .pl 2 true⟩)], [0, 1, 16, 17]⟩],
  (.seq (.reg [aT, aT, aT]) (.seq (.seq (.reg [aT, aT, aT, aT, aT]) (.cond none (.seq (.reg [aT]) .none) .none)) (.seq (.seq (.reg [aT, aT, aT, aT, aT, aT]) (.cond none (.seq (.reg [aT]) .none) .none)) (.seq (.reg [aT]) .none)))),
  []⟩
def b_laws_eqAtom : List (Nat × Tree) := [(0, (.ins (.grp [] [.cp 32 (.k 0), .cp 33 (.k 1)] (.grp [] [.cp 48 (.k 16), .cp 49 (.k 17)] (.grp [] [.cp 64 (.c (.bool false))] .nil))) (.ins (.grp [] [.cp 96 (.k 32)] (.grp [] [.cp 128 (.k 48)] (.grp [] [.bin .neq 144 (.k 96) (.k 128)] .nil))) (.ite (.k 144) (.ins (.grp [] [.cp 64 (.c (.bool false))] .nil) (.ret [(.bool, [(.k 64)])])) (.ins (.grp [] [.cp 176 (.k 33)] (.grp [] [.cp 208 (.k 49)] (.grp [] [.call 0 [(tLI, [(.k 176)]), (tLI, [(.k 208)])] [[224]]] (.grp [] [.not 240 (.k 224)] .nil)))) (.ite (.k 240) (.ins (.grp [] [.cp 64 (.c (.bool false))] .nil) (.ret [(.bool, [(.k 64)])])) (.ins (.grp [] [.cp 64 (.c (.bool true))] .nil) (.ret [(.bool, [(.k 64)])]))))))))]
noncomputable def c_laws_eqAtom : List Lf.Fn := [n_laws_eqIntS]
noncomputable def f_laws_eqAtom : (Int × (List Int)) → (Int × (List Int)) → Option (Bool) := tyd [tPILI, tPILI] [.bool] (fnD (DOf c_laws_eqAtom) s_laws_eqAtom a_laws_eqAtom.L b_laws_eqAtom)
noncomputable def n_laws_eqAtom : Lf.Fn := ⟨s_laws_eqAtom, [tPILI, tPILI], [.bool], f_laws_eqAtom⟩
theorem k_laws_eqAtom : compFn Try.prog (sigsOf c_laws_eqAtom) s_laws_eqAtom a_laws_eqAtom = some b_laws_eqAtom := by kernel_rfl
theorem g_laws_eqAtom : Lf.Good Try.prog n_laws_eqAtom := good_of (by simp only [c_laws_eqAtom, List.mem_singleton]; rintro _ rfl; exact g_laws_eqIntS) k_laws_eqAtom (by kernel_rfl) ⟨Try.f151, by kernel_rfl, by kernel_rfl, by kernel_rfl⟩ [tPILI, tPILI] [.bool]
theorem f_laws_eqAtom_eq (x0 : (Int × (List Int))) (x1 : (Int × (List Int))) : f_laws_eqAtom x0 x1 =
    bif (x0.1 != x1.1) then
      some false
    else
      (f_laws_eqIntS x0.2 x1.2).bind fun z1 =>
      bif (!z1) then
        some false
      else
        some true :=
  (show f_laws_eqAtom x0 x1 = (Jl (DOf c_laws_eqAtom) (irBlk a_laws_eqAtom.L b_laws_eqAtom) 0 [⟨tI, x0.1⟩, ⟨tLI, x0.2⟩, ⟨tI, x1.1⟩, ⟨tLI, x1.2⟩]).bind (readOuts [.bool]) by kernel_rfl).trans ((Jstep2 (DKOf_eq c_laws_eqAtom)).trans (by kernel_rfl))
/- loop.example/g01989/laws.eqAtomS -/
def s_laws_eqAtomS : Sig := ⟨88, [.v tLPILI, .v tLPILI], [(.bool, [none])]⟩
def a_laws_eqAtomS : FAnn := ⟨[⟨[(0, ⟨0, [], .va⟩), (15, ⟨0, [], .pl 1 false⟩), (16, ⟨0, [], .va⟩), (31, ⟨0, [], .pl 1 false⟩)], [0, 16]⟩,
    ⟨[(0, ⟨0, [], .va⟩), (15, ⟨0, [], .pl 1 false⟩), (16, ⟨0, [], .va⟩), (31, ⟨0, [], .pl 1 false⟩), (80, ⟨0, [], .va⟩), (95, ⟨0, [], .pl 1 false⟩)], [0, 16, 80]⟩],
  (.seq (.reg [aT]) (.seq (.seq (.reg [aR, aT, aR, aT, aT]) (.cond none (.seq (.reg [aT]) .none) .none)) (.seq (.seq (.reg [aT]) (.block none (.loop 1 (.seq (.seq (.reg [aR, aR, aT, aT]) (.cond none .none .none)) (.seq (.block none (.seq (.reg [aR, aR, aT, aT, aR, aR, aT, aT, aT, aT]) (.cond none (.seq (.reg [aT]) .none) .none))) (.reg [aR, aT, aT])))))) (.seq (.reg [aT]) .none)))),
  []⟩
def b_laws_eqAtomS : List (Nat × Tree) := [(0, (.ins (.grp [] [.cp 64 (.c (.bool false))] .nil) (.ins (.grp [] [.cp 96 (.k 0)] (.grp [] [.len false 112 (.k 96)] (.grp [] [.cp 128 (.k 16)] (.grp [] [.len false 144 (.k 128)] (.grp [] [.bin .neq 160 (.k 112) (.k 144)] .nil))))) (.ite (.k 160) (.ins (.grp [] [.cp 64 (.c (.bool false))] .nil) (.ret [(.bool, [(.k 64)])])) (.ins (.grp [] [.cp 80 (.c (.int .i64 (0)))] .nil) (.jump 1 [0, 16, 80])))))),
  (1, (.ins (.grp [] [.cp 176 (.k 80)] (.grp [] [.cp 192 (.k 0)] (.grp [] [.len false 208 (.k 192)] (.grp [] [.bin .lss 224 (.k 176) (.k 208)] .nil)))) (.ite (.k 224) (.ins (.grp [] [.cp 272 (.k 0)] (.grp [] [.cp 288 (.k 80)] (.grp [] [.idx (some tPILI) [304, 305] 0 (.k 272) (.k 288)] (.grp [] [.cp 320 (.k 304), .cp 321 (.k 305)] (.grp [] [.cp 336 (.k 16)] (.grp [] [.cp 352 (.k 80)] (.grp [] [.idx (some tPILI) [368, 369] 0 (.k 336) (.k 352)] (.grp [] [.cp 384 (.k 368), .cp 385 (.k 369)] (.grp [] [.call 0 [(tPILI, [(.k 320), (.k 321)]), (tPILI, [(.k 384), (.k 385)])] [[400]]] (.grp [] [.not 416 (.k 400)] .nil)))))))))) (.ite (.k 416) (.ins (.grp [] [.cp 64 (.c (.bool false))] .nil) (.ret [(.bool, [(.k 64)])])) (.ins (.grp [] [.cp 240 (.k 80)] (.grp [] [.bin .add 256 (.k 240) (.c (.int .i64 (1)))] (.grp [] [.cp 80 (.k 256)] .nil))) (.jump 1 [0, 16, 80])))) (.ins (.grp [] [.cp 64 (.c (.bool true))] .nil) (.ret [(.bool, [(.k 64)])])))))]
noncomputable def c_laws_eqAtomS : List Lf.Fn := [n_laws_eqAtom]
noncomputable def f_laws_eqAtomS : (List (Int × (List Int))) → (List (Int × (List Int))) → Option (Bool) := tyd [tLPILI, tLPILI] [.bool] (fnD (DOf c_laws_eqAtomS) s_laws_eqAtomS a_laws_eqAtomS.L b_laws_eqAtomS)
noncomputable def n_laws_eqAtomS : Lf.Fn := ⟨s_laws_eqAtomS, [tLPILI, tLPILI], [.bool], f_laws_eqAtomS⟩
noncomputable def l1_laws_eqAtomS (v0 : (List (Int × (List Int)))) (v16 : (List (Int × (List Int)))) (v80 : Int) : Option (Bool) := (Jl (DOf c_laws_eqAtomS) (irBlk a_laws_eqAtomS.L b_laws_eqAtomS) 1 [⟨tLPILI, v0⟩, ⟨tLPILI, v16⟩, ⟨tI, v80⟩]).bind (readOuts [.bool])
theorem k_laws_eqAtomS : compFn Try.prog (sigsOf c_laws_eqAtomS) s_laws_eqAtomS a_laws_eqAtomS = some b_laws_eqAtomS := by kernel_rfl
theorem g_laws_eqAtomS : Lf.Good Try.prog n_laws_eqAtomS := good_of (by simp only [c_laws_eqAtomS, List.mem_singleton]; rintro _ rfl; exact g_laws_eqAtom) k_laws_eqAtomS (by kernel_rfl) ⟨Try.f88, by kernel_rfl, by kernel_rfl, by kernel_rfl⟩ [tLPILI, tLPILI] [.bool]
theorem f_laws_eqAtomS_eq (x0 : (List (Int × (List Int)))) (x1 : (List (Int × (List Int)))) : f_laws_eqAtomS x0 x1 =
    bif ((x0.length : Int) != (x1.length : Int)) then
      some false
    else
      l1_laws_eqAtomS x0 x1 (0 : Int) :=
  (show f_laws_eqAtomS x0 x1 = (Jl (DOf c_laws_eqAtomS) (irBlk a_laws_eqAtomS.L b_laws_eqAtomS) 0 [⟨tLPILI, x0⟩, ⟨tLPILI, x1⟩]).bind (readOuts [.bool]) by kernel_rfl).trans ((Jstep2 (DKOf_eq c_laws_eqAtomS)).trans (by kernel_rfl))
theorem l1_laws_eqAtomS_eq (v0 : (List (Int × (List Int)))) (v16 : (List (Int × (List Int)))) (v80 : Int) : l1_laws_eqAtomS v0 v16 v80 =
    bif (decide (v80 < (v0.length : Int))) then
      (at? v0 v80).bind fun z1 =>
      (at? v16 v80).bind fun z2 =>
      (f_laws_eqAtom z1 z2).bind fun z3 =>
      bif (!z3) then
        some false
      else
        l1_laws_eqAtomS v0 v16 (IntKind.wrap .i64 (v80 + (1 : Int)))
    else
      some true :=
  (show l1_laws_eqAtomS v0 v16 v80 = (Jl (DOf c_laws_eqAtomS) (irBlk a_laws_eqAtomS.L b_laws_eqAtomS) 1 [⟨tLPILI, v0⟩, ⟨tLPILI, v16⟩, ⟨tI, v80⟩]).bind (readOuts [.bool]) by kernel_rfl).trans ((Jstep2 (DKOf_eq c_laws_eqAtomS)).trans (by kernel_rfl))
/- loop.example/g01989/laws.eqQuery -/
def s_laws_eqQuery : Sig := ⟨29, [.v tPLILPILI, .v tPLILPILI], [(.bool, [none])]⟩
def a_laws_eqQuery : FAnn := ⟨[⟨[(0, ⟨0, [], .va⟩), (1, ⟨0, [], .va⟩), (15, ⟨0, [], .pl 2 true⟩), (16, ⟨0, [], .va⟩), (17, ⟨0, [], .va⟩), (31, ⟨0, [], .pl 2 true⟩)], [0, 1, 16, 17]⟩],
  (.seq (.reg [aT, aT, aT]) (.seq (.seq (.reg [aT, aT, aT, aT, aT, aT]) (.cond none (.seq (.reg [aT]) .none) .none)) (.seq (.seq (.reg [aT, aT, aT, aT, ⟨.take, 1, []⟩, aT]) (.cond none (.seq (.reg [aT]) .none) .none)) (.seq (.reg [aT]) .none)))),
  []⟩
def b_laws_eqQuery : List (Nat × Tree) := [(0, (.ins (.grp [] [.cp 32 (.k 0), .cp 33 (.k 1)] (.grp [] [.cp 48 (.k 16), .cp 49 (.k 17)] (.grp [] [.cp 64 (.c (.bool false))] .nil))) (.ins (.grp [] [.cp 96 (.k 32)] (.grp [] [.cp 128 (.k 48)] (.grp [] [.call 0 [(tLI, [(.k 96)]), (tLI, [(.k 128)])] [[144]]] (.grp [] [.not 160 (.k 144)] .nil)))) (.ite (.k 160) (.ins (.grp [] [.cp 64 (.c (.bool false))] .nil) (.ret [(.bool, [(.k 64)])])) (.ins (.grp [] [.cp 192 (.k 33)] (.grp [] [.cp 224 (.k 49)] (.grp [] [.call 1 [(tLPILI, [(.k 192)]), (tLPILI, [(.k 224)])] [[240]]] (.grp [] [.not 256 (.k 240)] .nil)))) (.ite (.k 256) (.ins (.grp [] [.cp 64 (.c (.bool false))] .nil) (.ret [(.bool, [(.k 64)])])) (.ins (.grp [] [.cp 64 (.c (.bool true))] .nil) (.ret [(.bool, [(.k 64)])]))))))))]
noncomputable def c_laws_eqQuery : List Lf.Fn := [n_laws_eqIntS, n_laws_eqAtomS]
noncomputable def f_laws_eqQuery : ((List Int) × (List (Int × (List Int)))) → ((List Int) × (List (Int × (List Int)))) → Option (Bool) := tyd [tPLILPILI, tPLILPILI] [.bool] (fnD (DOf c_laws_eqQuery) s_laws_eqQuery a_laws_eqQuery.L b_laws_eqQuery)
noncomputable def n_laws_eqQuery : Lf.Fn := ⟨s_laws_eqQuery, [tPLILPILI, tPLILPILI], [.bool], f_laws_eqQuery⟩
theorem k_laws_eqQuery : compFn Try.prog (sigsOf c_laws_eqQuery) s_laws_eqQuery a_laws_eqQuery = some b_laws_eqQuery := by kernel_rfl
theorem g_laws_eqQuery : Lf.Good Try.prog n_laws_eqQuery := good_of (by simp only [c_laws_eqQuery, List.mem_cons, List.not_mem_nil, or_false]; rintro _ (rfl | rfl); exact g_laws_eqIntS; exact g_laws_eqAtomS) k_laws_eqQuery (by kernel_rfl) ⟨Try.f29, by kernel_rfl, by kernel_rfl, by kernel_rfl⟩ [tPLILPILI, tPLILPILI] [.bool]
theorem f_laws_eqQuery_eq (x0 : ((List Int) × (List (Int × (List Int))))) (x1 : ((List Int) × (List (Int × (List Int))))) : f_laws_eqQuery x0 x1 =
    (f_laws_eqIntS x0.1 x1.1).bind fun z1 =>
    bif (!z1) then
      some false
    else
      (f_laws_eqAtomS x0.2 x1.2).bind fun z2 =>
      bif (!z2) then
        some false
      else
        some true :=
  (show f_laws_eqQuery x0 x1 = (Jl (DOf c_laws_eqQuery) (irBlk a_laws_eqQuery.L b_laws_eqQuery) 0 [⟨tLI, x0.1⟩, ⟨tLPILI, x0.2⟩, ⟨tLI, x1.1⟩, ⟨tLPILI, x1.2⟩]).bind (readOuts [.bool]) by kernel_rfl).trans ((Jstep2 (DKOf_eq c_laws_eqQuery)).trans (by kernel_rfl))
/- loop.example/g01989/laws.FnExactIsExistential -/
def s_laws_FnExactIsExistential : Sig := ⟨5, [.v tLPIPLIPIPII, .v tPLILPILI, .v tPII], [(.bool, [none])]⟩
def a_laws_FnExactIsExistential : FAnn := ⟨[⟨[(0, ⟨0, [], .va⟩), (15, ⟨0, [], .pl 1 false⟩), (16, ⟨0, [], .va⟩), (17, ⟨0, [], .va⟩), (31, ⟨0, [], .pl 2 true⟩), (32, ⟨0, [], .va⟩), (33, ⟨0, [], .va⟩), (47, ⟨0, [], .pl 2 true⟩)], [0, 16, 17, 32, 33]⟩],
  (.seq (.reg [aT, aT, aT]) (.seq (.reg [aT]) (.seq (.reg [aR, aR, aT, aT]) (.seq (.seq (.reg [aR, aT]) (.cond none (.seq (.reg [aT]) .none) .none)) (.seq (.reg [aT, aR, ⟨.take, 1, []⟩, aT]) (.seq (.seq (.reg [aR, aT]) (.cond none (.seq (.reg [aT]) .none) .none)) (.seq (.reg [aR, ⟨.take, 2, []⟩, aT, ⟨.take, 3, []⟩, aT, ⟨.take, 4, []⟩, ⟨.take, 5, []⟩, aT]) (.seq (.reg [aR, ⟨.take, 2, []⟩, aT]) (.seq (.reg [aT, ⟨.take, 3, []⟩, aT, aT]) (.seq (.reg [aR, aT, aT, ⟨.take, 4, []⟩, ⟨.take, 6, []⟩, aT]) (.seq (.seq (.reg [aR, aR, aT]) (.cond none (.seq (.reg [aT]) .none) .none)) (.seq (.seq (.reg [aR, aR, ⟨.take, 2, []⟩, ⟨.take, 7, []⟩, aT]) (.cond none (.seq (.reg [aT]) .none) .none)) (.seq (.seq (.reg [aT, aT, ⟨.take, 3, []⟩, ⟨.take, 8, []⟩, aT]) (.cond none (.seq (.reg [aT]) .none) .none)) (.seq (.reg [aT]) .none)))))))))))))),
  []⟩
def b_laws_FnExactIsExistential : List (Nat × Tree) := [(0, (.ins (.grp [] [.cp 64 (.k 16), .cp 65 (.k 17)] (.grp [] [.cp 80 (.k 32), .cp 81 (.k 33)] (.grp [] [.cp 96 (.c (.bool false))] .nil))) (.ins (.grp [] [.cp 112 (.c (.int .i64 (1048576)))] .nil) (.ins (.grp [] [.cp 192 (.k 0)] (.grp [] [.cp 208 (.k 112)] (.grp [] [.call 0 [(tLPIPLIPIPII, [(.k 192)]), (tI, [(.k 208)])] [[224]]] (.grp [] [.cp 112 (.k 224)] .nil)))) (.ins (.grp [] [.cp 240 (.k 112)] (.grp [] [.bin .lss 256 (.k 240) (.c (.int .i64 (0)))] .nil)) (.ite (.k 256) (.ins (.grp [] [.cp 96 (.c (.bool true))] .nil) (.ret [(.bool, [(.k 96)])])) (.ins (.grp [] [.cp 272 (.k 64), .cp 273 (.k 65)] (.grp [] [.cp 288 (.k 112)] (.grp [] [.call 1 [(tPLILPILI, [(.k 272), (.k 273)]), (tI, [(.k 288)])] [[304]]] (.grp [] [.cp 112 (.k 304)] .nil)))) (.ins (.grp [] [.cp 320 (.k 112)] (.grp [] [.bin .lss 336 (.k 320) (.c (.int .i64 (0)))] .nil)) (.ite (.k 336) (.ins (.grp [] [.cp 96 (.c (.bool true))] .nil) (.ret [(.bool, [(.k 96)])])) (.ins (.grp [] [.cp 352 (.k 0)] (.grp [] [.call 2 [(tLPIPLIPIPII, [(.k 352)])] [[368]]] (.grp [] [.cp 384 (.k 64), .cp 385 (.k 65)] (.grp [] [.call 3 [(tPLILPILI, [(.k 384), (.k 385)])] [[400, 401]]] (.grp [] [.cp 416 (.k 80), .cp 417 (.k 81)] (.grp [] [.call 4 [(tPII, [(.k 416), (.k 417)])] [[432, 433]]] (.grp [] [.call 5 [(tLPIPLIPIPII, [(.k 368)]), (tPLILPILI, [(.k 400), (.k 401)]), (tPII, [(.k 432), (.k 433)])] [[448]]] (.grp [] [.cp 128 (.k 448)] .nil)))))))) (.ins (.grp [] [.cp 464 (.k 0)] (.grp [] [.call 2 [(tLPIPLIPIPII, [(.k 464)])] [[480]]] (.grp [] [.cp 144 (.k 480)] .nil))) (.ins (.grp [] [.cp 496 (.k 64), .cp 497 (.k 65)] (.grp [] [.call 3 [(tPLILPILI, [(.k 496), (.k 497)])] [[512, 513]]] (.grp [] [.cp 160 (.c (.nil tI)), .cp 161 (.c (.nil tPILI))] (.grp [] [.cp 160 (.k 512), .cp 161 (.k 513)] .nil)))) (.ins (.grp [] [.cp 528 (.k 144)] (.grp [] [.cp 544 (.k 160), .cp 545 (.k 161)] (.grp [] [.cp 560 (.k 80), .cp 561 (.k 81)] (.grp [] [.call 4 [(tPII, [(.k 560), (.k 561)])] [[576, 577]]] (.grp [] [.call 6 [(tLPIPLIPIPII, [(.k 528)]), (tPLILPILI, [(.k 544), (.k 545)]), (tPII, [(.k 576), (.k 577)])] [[592]]] (.grp [] [.cp 176 (.k 592)] .nil)))))) (.ins (.grp [] [.cp 608 (.k 176)] (.grp [] [.cp 624 (.k 128)] (.grp [] [.beq true 640 (.k 608) (.k 624)] .nil))) (.ite (.k 640) (.ins (.grp [] [.cp 96 (.c (.bool false))] .nil) (.ret [(.bool, [(.k 96)])])) (.ins (.grp [] [.cp 656 (.k 144)] (.grp [] [.cp 672 (.k 0)] (.grp [] [.call 2 [(tLPIPLIPIPII, [(.k 672)])] [[688]]] (.grp [] [.call 7 [(tLPIPLIPIPII, [(.k 656)]), (tLPIPLIPIPII, [(.k 688)])] [[704]]] (.grp [] [.not 720 (.k 704)] .nil))))) (.ite (.k 720) (.ins (.grp [] [.cp 96 (.c (.bool false))] .nil) (.ret [(.bool, [(.k 96)])])) (.ins (.grp [] [.cp 736 (.k 160), .cp 737 (.k 161)] (.grp [] [.cp 752 (.k 64), .cp 753 (.k 65)] (.grp [] [.call 3 [(tPLILPILI, [(.k 752), (.k 753)])] [[768, 769]]] (.grp [] [.call 8 [(tPLILPILI, [(.k 736), (.k 737)]), (tPLILPILI, [(.k 768), (.k 769)])] [[784]]] (.grp [] [.not 800 (.k 784)] .nil))))) (.ite (.k 800) (.ins (.grp [] [.cp 96 (.c (.bool false))] .nil) (.ret [(.bool, [(.k 96)])])) (.ins (.grp [] [.cp 96 (.c (.bool true))] .nil) (.ret [(.bool, [(.k 96)])])))))))))))))))))))))]
noncomputable def c_laws_FnExactIsExistential : List Lf.Fn := [n_laws_szMethodS, n_laws_szQuery, n_laws_toMethodS, n_laws_toQuery, n_laws_toStep, n_spec_IsExistential, n_impl_IsExistential, n_laws_eqMethodS, n_laws_eqQuery]
noncomputable def f_laws_FnExactIsExistential : (List (Int × ((List Int) × (Int × (Int × Int))))) → ((List Int) × (List (Int × (List Int)))) → (Int × Int) → Option (Bool) := tyd [tLPIPLIPIPII, tPLILPILI, tPII] [.bool] (fnD (DOf c_laws_FnExactIsExistential) s_laws_FnExactIsExistential a_laws_FnExactIsExistential.L b_laws_FnExactIsExistential)
noncomputable def n_laws_FnExactIsExistential : Lf.Fn := ⟨s_laws_FnExactIsExistential, [tLPIPLIPIPII, tPLILPILI, tPII], [.bool], f_laws_FnExactIsExistential⟩
theorem k_laws_FnExactIsExistential : compFn Try.prog (sigsOf c_laws_FnExactIsExistential) s_laws_FnExactIsExistential a_laws_FnExactIsExistential = some b_laws_FnExactIsExistential := by kernel_rfl
theorem g_laws_FnExactIsExistential : Lf.Good Try.prog n_laws_FnExactIsExistential := good_of (by simp only [c_laws_FnExactIsExistential, List.mem_cons, List.not_mem_nil, or_false]; rintro _ (rfl | rfl | rfl | rfl | rfl | rfl | rfl | rfl | rfl); exact g_laws_szMethodS; exact g_laws_szQuery; exact g_laws_toMethodS; exact g_laws_toQuery; exact g_laws_toStep; exact g_spec_IsExistential; exact g_impl_IsExistential; exact g_laws_eqMethodS; exact g_laws_eqQuery) k_laws_FnExactIsExistential (by kernel_rfl) ⟨Try.f5, by kernel_rfl, by kernel_rfl, by kernel_rfl⟩ [tLPIPLIPIPII, tPLILPILI, tPII] [.bool]
theorem f_laws_FnExactIsExistential_eq (x0 : (List (Int × ((List Int) × (Int × (Int × Int)))))) (x1 : ((List Int) × (List (Int × (List Int))))) (x2 : (Int × Int)) : f_laws_FnExactIsExistential x0 x1 x2 =
    (f_laws_szMethodS x0 (1048576 : Int)).bind fun z1 =>
    bif (decide (z1 < (0 : Int))) then
      some true
    else
      (f_laws_szQuery x1 z1).bind fun z2 =>
      bif (decide (z2 < (0 : Int))) then
        some true
      else
        (f_laws_toMethodS x0).bind fun z3 =>
        (f_laws_toQuery x1).bind fun z4 =>
        (f_laws_toStep x2).bind fun z5 =>
        (f_spec_IsExistential z3 z4 z5).bind fun z6 =>
        (f_laws_toMethodS x0).bind fun z7 =>
        (f_laws_toQuery x1).bind fun z8 =>
        (f_laws_toStep x2).bind fun z9 =>
        (f_impl_IsExistential z7 z8 z9).bind fun z10 =>
        bif (!(z10 == z6)) then
          some false
        else
          (f_laws_toMethodS x0).bind fun z11 =>
          (f_laws_eqMethodS z7 z11).bind fun z12 =>
          bif (!z12) then
            some false
          else
            (f_laws_toQuery x1).bind fun z13 =>
            (f_laws_eqQuery z8 z13).bind fun z14 =>
            bif (!z14) then
              some false
            else
              some true :=
  (show f_laws_FnExactIsExistential x0 x1 x2 = (Jl (DOf c_laws_FnExactIsExistential) (irBlk a_laws_FnExactIsExistential.L b_laws_FnExactIsExistential) 0 [⟨tLPIPLIPIPII, x0⟩, ⟨tLI, x1.1⟩, ⟨tLPILI, x1.2⟩, ⟨tI, x2.1⟩, ⟨tI, x2.2⟩]).bind (readOuts [.bool]) by kernel_rfl).trans ((Jstep2 (DKOf_eq c_laws_FnExactIsExistential)).trans (by kernel_rfl))
end Go.Proofs.Ytjffopklnampaaa
