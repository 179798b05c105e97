/- The functions that FnExactAtomsFor reaches, as functions of data, and their texts, part 1 of 1. -/
import Derived.Test.YtjffopklnampaaaLd
import Derived.KernelRfl
import Derived.Test.YtjffopklnampaaaProg
set_option linter.unusedVariables false
set_option linter.unusedSimpArgs false
namespace Go.Proofs.Ytjffopklnampaaa
open Go.Lf
def aT : Ann := ⟨.take, 0, []⟩
def aR : Ann := ⟨.ref, 0, []⟩
def tI : Ty := .int .i64
def tLI : Ty := .slice tI
def tPII : Ty := .pair tI tI
def tPIPII : Ty := .pair tI tPII
def tPLIPIPII : Ty := .pair tLI tPIPII
def tPIPLIPIPII : Ty := .pair tI tPLIPIPII
def tLPIPLIPIPII : Ty := .slice tPIPLIPIPII
def tPILI : Ty := .pair tI tLI
def tLPILI : Ty := .slice tPILI
def tPLILPILI : Ty := .pair tLI tLPILI
def m42d08 : M := .sl .own .sc
def m4163c : M := .pair .sc .sc
def mb0748 : M := .pair .sc m4163c
def m51138 : M := .pair m42d08 mb0748
def m46dba : M := .pair .sc m51138
def mca4df : M := .pair .sc m42d08
/- loop.example/g01989/laws.szIntS -/
def s_laws_szIntS : Sig := ⟨77, [.v tLI, .v tI], [(tI, [none])]⟩
def a_laws_szIntS : FAnn := ⟨[⟨[(0, ⟨0, [], .va⟩), (15, ⟨0, [], .pl 1 false⟩), (16, ⟨0, [], .va⟩), (31, ⟨0, [], .pl 1 false⟩)], [0, 16]⟩],
  (.seq (.reg [aT]) (.seq (.reg [aR, aR, aT, aT, aT]) (.seq (.seq (.reg [aR, aT]) (.cond none (.seq (.reg [aT]) .none) .none)) (.seq (.reg [aR, aT]) .none)))),
  []⟩
def b_laws_szIntS : List (Nat × Tree) := [(0, (.ins (.grp [] [.cp 64 (.c (.int .i64 (0)))] .nil) (.ins (.grp [] [.cp 80 (.k 16)] (.grp [] [.cp 96 (.k 0)] (.grp [] [.len false 112 (.k 96)] (.grp [] [.bin .sub 128 (.k 80) (.k 112)] (.grp [] [.cp 16 (.k 128)] .nil))))) (.ins (.grp [] [.cp 144 (.k 16)] (.grp [] [.bin .lss 160 (.k 144) (.c (.int .i64 (0)))] .nil)) (.ite (.k 160) (.ins (.grp [] [.cp 64 (.c (.int .i64 (-1)))] .nil) (.ret [(tI, [(.k 64)])])) (.ins (.grp [] [.cp 176 (.k 16)] (.grp [] [.cp 64 (.k 176)] .nil)) (.ret [(tI, [(.k 64)])])))))))]
noncomputable def c_laws_szIntS : List Lf.Fn := []
noncomputable def f_laws_szIntS : (List Int) → Int → Option (Int) := tyd [tLI, tI] [tI] (fnD (DOf c_laws_szIntS) s_laws_szIntS a_laws_szIntS.L b_laws_szIntS)
noncomputable def n_laws_szIntS : Lf.Fn := ⟨s_laws_szIntS, [tLI, tI], [tI], f_laws_szIntS⟩
theorem k_laws_szIntS : compFn Try.prog (sigsOf c_laws_szIntS) s_laws_szIntS a_laws_szIntS = some b_laws_szIntS := by kernel_rfl
theorem g_laws_szIntS : Lf.Good Try.prog n_laws_szIntS := good_of (by intro _ h; simp [c_laws_szIntS] at h) k_laws_szIntS (by kernel_rfl) ⟨Try.f77, by kernel_rfl, by kernel_rfl, by kernel_rfl⟩ [tLI, tI] [tI]
theorem f_laws_szIntS_eq (x0 : (List Int)) (x1 : Int) : f_laws_szIntS x0 x1 =
    bif (decide ((IntKind.wrap .i64 (x1 - (x0.length : Int))) < (0 : Int))) then
      some (-1 : Int)
    else
      some (IntKind.wrap .i64 (x1 - (x0.length : Int))) :=
  (show f_laws_szIntS x0 x1 = (Jl (DOf c_laws_szIntS) (irBlk a_laws_szIntS.L b_laws_szIntS) 0 [⟨tLI, x0⟩, ⟨tI, x1⟩]).bind (readOuts [tI]) by kernel_rfl).trans ((Jstep2 (DKOf_eq c_laws_szIntS)).trans (by kernel_rfl))
/- loop.example/g01989/laws.szMethod -/
def s_laws_szMethod : Sig := ⟨85, [.v tPIPLIPIPII, .v tI], [(tI, [none])]⟩
def a_laws_szMethod : FAnn := ⟨[⟨[(0, ⟨0, [], .va⟩), (1, ⟨0, [], .va⟩), (2, ⟨0, [], .va⟩), (3, ⟨0, [], .va⟩), (4, ⟨0, [], .va⟩), (15, ⟨0, [], .pl 5 true⟩), (16, ⟨0, [], .va⟩), (31, ⟨0, [], .pl 1 false⟩)], [0, 1, 2, 3, 4, 16]⟩],
  (.seq (.reg [aT, aT]) (.seq (.reg [aT, aT, aR, aT, aT]) (.seq (.seq (.reg [aR, aT]) (.cond none (.seq (.reg [aT]) .none) .none)) (.seq (.reg [aR, aT]) .none)))),
  []⟩
def b_laws_szMethod : List (Nat × Tree) := [(0, (.ins (.grp [] [.cp 32 (.k 0), .cp 33 (.k 1), .cp 34 (.k 2), .cp 35 (.k 3), .cp 36 (.k 4)] (.grp [] [.cp 64 (.c (.int .i64 (0)))] .nil)) (.ins (.grp [] [.cp 96 (.k 33)] (.grp [] [.cp 112 (.k 16)] (.grp [] [.call 0 [(tLI, [(.k 96)]), (tI, [(.k 112)])] [[128]]] (.grp [] [.cp 16 (.k 128)] .nil)))) (.ins (.grp [] [.cp 144 (.k 16)] (.grp [] [.bin .lss 160 (.k 144) (.c (.int .i64 (0)))] .nil)) (.ite (.k 160) (.ins (.grp [] [.cp 64 (.c (.int .i64 (-1)))] .nil) (.ret [(tI, [(.k 64)])])) (.ins (.grp [] [.cp 176 (.k 16)] (.grp [] [.cp 64 (.k 176)] .nil)) (.ret [(tI, [(.k 64)])])))))))]
noncomputable def c_laws_szMethod : List Lf.Fn := [n_laws_szIntS]
noncomputable def f_laws_szMethod : (Int × ((List Int) × (Int × (Int × Int)))) → Int → Option (Int) := tyd [tPIPLIPIPII, tI] [tI] (fnD (DOf c_laws_szMethod) s_laws_szMethod a_laws_szMethod.L b_laws_szMethod)
noncomputable def n_laws_szMethod : Lf.Fn := ⟨s_laws_szMethod, [tPIPLIPIPII, tI], [tI], f_laws_szMethod⟩
theorem k_laws_szMethod : compFn Try.prog (sigsOf c_laws_szMethod) s_laws_szMethod a_laws_szMethod = some b_laws_szMethod := by kernel_rfl
theorem g_laws_szMethod : Lf.Good Try.prog n_laws_szMethod := good_of (by simp only [c_laws_szMethod, List.mem_singleton]; rintro _ rfl; exact g_laws_szIntS) k_laws_szMethod (by kernel_rfl) ⟨Try.f85, by kernel_rfl, by kernel_rfl, by kernel_rfl⟩ [tPIPLIPIPII, tI] [tI]
theorem f_laws_szMethod_eq (x0 : (Int × ((List Int) × (Int × (Int × Int))))) (x1 : Int) : f_laws_szMethod x0 x1 =
    (f_laws_szIntS x0.2.1 x1).bind fun z1 =>
    bif (decide (z1 < (0 : Int))) then
      some (-1 : Int)
    else
      some z1 :=
  (show f_laws_szMethod x0 x1 = (Jl (DOf c_laws_szMethod) (irBlk a_laws_szMethod.L b_laws_szMethod) 0 [⟨tI, x0.1⟩, ⟨tLI, x0.2.1⟩, ⟨tI, x0.2.2.1⟩, ⟨tI, x0.2.2.2.1⟩, ⟨tI, x0.2.2.2.2⟩, ⟨tI, x1⟩]).bind (readOuts [tI]) by kernel_rfl).trans ((Jstep2 (DKOf_eq c_laws_szMethod)).trans (by kernel_rfl))
/- loop.example/g01989/laws.szMethodS -/
def s_laws_szMethodS : Sig := ⟨24, [.v tLPIPLIPIPII, .v tI], [(tI, [none])]⟩
def a_laws_szMethodS : FAnn := ⟨[⟨[(0, ⟨0, [], .va⟩), (15, ⟨0, [], .pl 1 false⟩), (16, ⟨0, [], .va⟩), (31, ⟨0, [], .pl 1 false⟩)], [0, 16]⟩,
    ⟨[(0, ⟨0, [], .va⟩), (15, ⟨0, [], .pl 1 false⟩), (16, ⟨0, [], .va⟩), (31, ⟨0, [], .pl 1 false⟩), (80, ⟨0, [], .va⟩), (95, ⟨0, [], .pl 1 false⟩)], [0, 16, 80]⟩],
  (.seq (.reg [aT]) (.seq (.reg [aR, aR, aT, aT, aT]) (.seq (.seq (.reg [aR, aT]) (.cond none (.seq (.reg [aT]) .none) .none)) (.seq (.seq (.reg [aT]) (.block none (.loop 1 (.seq (.seq (.reg [aR, aR, aT, aT]) (.cond none .none .none)) (.seq (.block none (.seq (.reg [aR, aR, aT, aT, aR, aT, aT]) (.seq (.reg [aR, aT]) (.cond none (.seq (.reg [aT]) .none) .none)))) (.reg [aR, aT, aT])))))) (.seq (.reg [aR, aT]) .none))))),
  []⟩
def b_laws_szMethodS : List (Nat × Tree) := [(0, (.ins (.grp [] [.cp 64 (.c (.int .i64 (0)))] .nil) (.ins (.grp [] [.cp 96 (.k 16)] (.grp [] [.cp 112 (.k 0)] (.grp [] [.len false 128 (.k 112)] (.grp [] [.bin .sub 144 (.k 96) (.k 128)] (.grp [] [.cp 16 (.k 144)] .nil))))) (.ins (.grp [] [.cp 160 (.k 16)] (.grp [] [.bin .lss 176 (.k 160) (.c (.int .i64 (0)))] .nil)) (.ite (.k 176) (.ins (.grp [] [.cp 64 (.c (.int .i64 (-1)))] .nil) (.ret [(tI, [(.k 64)])])) (.ins (.grp [] [.cp 80 (.c (.int .i64 (0)))] .nil) (.jump 1 [0, 16, 80]))))))),
  (1, (.ins (.grp [] [.cp 192 (.k 80)] (.grp [] [.cp 208 (.k 0)] (.grp [] [.len false 224 (.k 208)] (.grp [] [.bin .lss 240 (.k 192) (.k 224)] .nil)))) (.ite (.k 240) (.ins (.grp [] [.cp 288 (.k 0)] (.grp [] [.cp 304 (.k 80)] (.grp [] [.idx (some tPIPLIPIPII) [320, 321, 322, 323, 324] 0 (.k 288) (.k 304)] (.grp [] [.cp 336 (.k 320), .cp 337 (.k 321), .cp 338 (.k 322), .cp 339 (.k 323), .cp 340 (.k 324)] (.grp [] [.cp 352 (.k 16)] (.grp [] [.call 0 [(tPIPLIPIPII, [(.k 336), (.k 337), (.k 338), (.k 339), (.k 340)]), (tI, [(.k 352)])] [[368]]] (.grp [] [.cp 16 (.k 368)] .nil))))))) (.ins (.grp [] [.cp 384 (.k 16)] (.grp [] [.bin .lss 400 (.k 384) (.c (.int .i64 (0)))] .nil)) (.ite (.k 400) (.ins (.grp [] [.cp 64 (.c (.int .i64 (-1)))] .nil) (.ret [(tI, [(.k 64)])])) (.ins (.grp [] [.cp 256 (.k 80)] (.grp [] [.bin .add 272 (.k 256) (.c (.int .i64 (1)))] (.grp [] [.cp 80 (.k 272)] .nil))) (.jump 1 [0, 16, 80]))))) (.ins (.grp [] [.cp 416 (.k 16)] (.grp [] [.cp 64 (.k 416)] .nil)) (.ret [(tI, [(.k 64)])])))))]
noncomputable def c_laws_szMethodS : List Lf.Fn := [n_laws_szMethod]
noncomputable def f_laws_szMethodS : (List (Int × ((List Int) × (Int × (Int × Int))))) → Int → Option (Int) := tyd [tLPIPLIPIPII, tI] [tI] (fnD (DOf c_laws_szMethodS) s_laws_szMethodS a_laws_szMethodS.L b_laws_szMethodS)
noncomputable def n_laws_szMethodS : Lf.Fn := ⟨s_laws_szMethodS, [tLPIPLIPIPII, tI], [tI], f_laws_szMethodS⟩
noncomputable def l1_laws_szMethodS (v0 : (List (Int × ((List Int) × (Int × (Int × Int)))))) (v16 : Int) (v80 : Int) : Option (Int) := (Jl (DOf c_laws_szMethodS) (irBlk a_laws_szMethodS.L b_laws_szMethodS) 1 [⟨tLPIPLIPIPII, v0⟩, ⟨tI, v16⟩, ⟨tI, v80⟩]).bind (readOuts [tI])
theorem k_laws_szMethodS : compFn Try.prog (sigsOf c_laws_szMethodS) s_laws_szMethodS a_laws_szMethodS = some b_laws_szMethodS := by kernel_rfl
theorem g_laws_szMethodS : Lf.Good Try.prog n_laws_szMethodS := good_of (by simp only [c_laws_szMethodS, List.mem_singleton]; rintro _ rfl; exact g_laws_szMethod) k_laws_szMethodS (by kernel_rfl) ⟨Try.f24, by kernel_rfl, by kernel_rfl, by kernel_rfl⟩ [tLPIPLIPIPII, tI] [tI]
theorem f_laws_szMethodS_eq (x0 : (List (Int × ((List Int) × (Int × (Int × Int)))))) (x1 : Int) : f_laws_szMethodS x0 x1 =
    bif (decide ((IntKind.wrap .i64 (x1 - (x0.length : Int))) < (0 : Int))) then
      some (-1 : Int)
    else
      l1_laws_szMethodS x0 (IntKind.wrap .i64 (x1 - (x0.length : Int))) (0 : Int) :=
  (show f_laws_szMethodS x0 x1 = (Jl (DOf c_laws_szMethodS) (irBlk a_laws_szMethodS.L b_laws_szMethodS) 0 [⟨tLPIPLIPIPII, x0⟩, ⟨tI, x1⟩]).bind (readOuts [tI]) by kernel_rfl).trans ((Jstep2 (DKOf_eq c_laws_szMethodS)).trans (by kernel_rfl))
theorem l1_laws_szMethodS_eq (v0 : (List (Int × ((List Int) × (Int × (Int × Int)))))) (v16 : Int) (v80 : Int) : l1_laws_szMethodS v0 v16 v80 =
    bif (decide (v80 < (v0.length : Int))) then
      (at? v0 v80).bind fun z1 =>
      (f_laws_szMethod z1 v16).bind fun z2 =>
      bif (decide (z2 < (0 : Int))) then
        some (-1 : Int)
      else
        l1_laws_szMethodS v0 z2 (IntKind.wrap .i64 (v80 + (1 : Int)))
    else
      some v16 :=
  (show l1_laws_szMethodS v0 v16 v80 = (Jl (DOf c_laws_szMethodS) (irBlk a_laws_szMethodS.L b_laws_szMethodS) 1 [⟨tLPIPLIPIPII, v0⟩, ⟨tI, v16⟩, ⟨tI, v80⟩]).bind (readOuts [tI]) by kernel_rfl).trans ((Jstep2 (DKOf_eq c_laws_szMethodS)).trans (by kernel_rfl))
/- loop.example/g01989/laws.szAtom -/
def s_laws_szAtom : Sig := ⟨149, [.v tPILI, .v tI], [(tI, [none])]⟩
def a_laws_szAtom : FAnn := ⟨[⟨[(0, ⟨0, [], .va⟩), (1, ⟨0, [], .va⟩), (15, ⟨0, [], .pl 2 true⟩), (16, ⟨0, [], .va⟩), (31, ⟨0, [], .pl 1 false⟩)], [0, 1, 16]⟩],
  (.seq (.reg [aT, aT]) (.seq (.reg [aT, aT, aR, aT, aT]) (.seq (.seq (.reg [aR, aT]) (.cond none (.seq (.reg [aT]) .none) .none)) (.seq (.reg [aR, aT]) .none)))),
  []⟩
def b_laws_szAtom : List (Nat × Tree) := [(0, (.ins (.grp [] [.cp 32 (.k 0), .cp 33 (.k 1)] (.grp [] [.cp 64 (.c (.int .i64 (0)))] .nil)) (.ins (.grp [] [.cp 96 (.k 33)] (.grp [] [.cp 112 (.k 16)] (.grp [] [.call 0 [(tLI, [(.k 96)]), (tI, [(.k 112)])] [[128]]] (.grp [] [.cp 16 (.k 128)] .nil)))) (.ins (.grp [] [.cp 144 (.k 16)] (.grp [] [.bin .lss 160 (.k 144) (.c (.int .i64 (0)))] .nil)) (.ite (.k 160) (.ins (.grp [] [.cp 64 (.c (.int .i64 (-1)))] .nil) (.ret [(tI, [(.k 64)])])) (.ins (.grp [] [.cp 176 (.k 16)] (.grp [] [.cp 64 (.k 176)] .nil)) (.ret [(tI, [(.k 64)])])))))))]
noncomputable def c_laws_szAtom : List Lf.Fn := [n_laws_szIntS]
noncomputable def f_laws_szAtom : (Int × (List Int)) → Int → Option (Int) := tyd [tPILI, tI] [tI] (fnD (DOf c_laws_szAtom) s_laws_szAtom a_laws_szAtom.L b_laws_szAtom)
noncomputable def n_laws_szAtom : Lf.Fn := ⟨s_laws_szAtom, [tPILI, tI], [tI], f_laws_szAtom⟩
theorem k_laws_szAtom : compFn Try.prog (sigsOf c_laws_szAtom) s_laws_szAtom a_laws_szAtom = some b_laws_szAtom := by kernel_rfl
theorem g_laws_szAtom : Lf.Good Try.prog n_laws_szAtom := good_of (by simp only [c_laws_szAtom, List.mem_singleton]; rintro _ rfl; exact g_laws_szIntS) k_laws_szAtom (by kernel_rfl) ⟨Try.f149, by kernel_rfl, by kernel_rfl, by kernel_rfl⟩ [tPILI, tI] [tI]
theorem f_laws_szAtom_eq (x0 : (Int × (List Int))) (x1 : Int) : f_laws_szAtom x0 x1 =
    (f_laws_szIntS x0.2 x1).bind fun z1 =>
    bif (decide (z1 < (0 : Int))) then
      some (-1 : Int)
    else
      some z1 :=
  (show f_laws_szAtom x0 x1 = (Jl (DOf c_laws_szAtom) (irBlk a_laws_szAtom.L b_laws_szAtom) 0 [⟨tI, x0.1⟩, ⟨tLI, x0.2⟩, ⟨tI, x1⟩]).bind (readOuts [tI]) by kernel_rfl).trans ((Jstep2 (DKOf_eq c_laws_szAtom)).trans (by kernel_rfl))
/- loop.example/g01989/laws.szAtomS -/
def s_laws_szAtomS : Sig := ⟨84, [.v tLPILI, .v tI], [(tI, [none])]⟩
def a_laws_szAtomS : FAnn := ⟨[⟨[(0, ⟨0, [], .va⟩), (15, ⟨0, [], .pl 1 false⟩), (16, ⟨0, [], .va⟩), (31, ⟨0, [], .pl 1 false⟩)], [0, 16]⟩,
    ⟨[(0, ⟨0, [], .va⟩), (15, ⟨0, [], .pl 1 false⟩), (16, ⟨0, [], .va⟩), (31, ⟨0, [], .pl 1 false⟩), (80, ⟨0, [], .va⟩), (95, ⟨0, [], .pl 1 false⟩)], [0, 16, 80]⟩],
  (.seq (.reg [aT]) (.seq (.reg [aR, aR, aT, aT, aT]) (.seq (.seq (.reg [aR, aT]) (.cond none (.seq (.reg [aT]) .none) .none)) (.seq (.seq (.reg [aT]) (.block none (.loop 1 (.seq (.seq (.reg [aR, aR, aT, aT]) (.cond none .none .none)) (.seq (.block none (.seq (.reg [aR, aR, aT, aT, aR, aT, aT]) (.seq (.reg [aR, aT]) (.cond none (.seq (.reg [aT]) .none) .none)))) (.reg [aR, aT, aT])))))) (.seq (.reg [aR, aT]) .none))))),
  []⟩
def b_laws_szAtomS : List (Nat × Tree) := [(0, (.ins (.grp [] [.cp 64 (.c (.int .i64 (0)))] .nil) (.ins (.grp [] [.cp 96 (.k 16)] (.grp [] [.cp 112 (.k 0)] (.grp [] [.len false 128 (.k 112)] (.grp [] [.bin .sub 144 (.k 96) (.k 128)] (.grp [] [.cp 16 (.k 144)] .nil))))) (.ins (.grp [] [.cp 160 (.k 16)] (.grp [] [.bin .lss 176 (.k 160) (.c (.int .i64 (0)))] .nil)) (.ite (.k 176) (.ins (.grp [] [.cp 64 (.c (.int .i64 (-1)))] .nil) (.ret [(tI, [(.k 64)])])) (.ins (.grp [] [.cp 80 (.c (.int .i64 (0)))] .nil) (.jump 1 [0, 16, 80]))))))),
  (1, (.ins (.grp [] [.cp 192 (.k 80)] (.grp [] [.cp 208 (.k 0)] (.grp [] [.len false 224 (.k 208)] (.grp [] [.bin .lss 240 (.k 192) (.k 224)] .nil)))) (.ite (.k 240) (.ins (.grp [] [.cp 288 (.k 0)] (.grp [] [.cp 304 (.k 80)] (.grp [] [.idx (some tPILI) [320, 321] 0 (.k 288) (.k 304)] (.grp [] [.cp 336 (.k 320), .cp 337 (.k 321)] (.grp [] [.cp 352 (.k 16)] (.grp [] [.call 0 [(tPILI, [(.k 336), (.k 337)]), (tI, [(.k 352)])] [[368]]] (.grp [] [.cp 16 (.k 368)] .nil))))))) (.ins (.grp [] [.cp 384 (.k 16)] (.grp [] [.bin .lss 400 (.k 384) (.c (.int .i64 (0)))] .nil)) (.ite (.k 400) (.ins (.grp [] [.cp 64 (.c (.int .i64 (-1)))] .nil) (.ret [(tI, [(.k 64)])])) (.ins (.grp [] [.cp 256 (.k 80)] (.grp [] [.bin .add 272 (.k 256) (.c (.int .i64 (1)))] (.grp [] [.cp 80 (.k 272)] .nil))) (.jump 1 [0, 16, 80]))))) (.ins (.grp [] [.cp 416 (.k 16)] (.grp [] [.cp 64 (.k 416)] .nil)) (.ret [(tI, [(.k 64)])])))))]
noncomputable def c_laws_szAtomS : List Lf.Fn := [n_laws_szAtom]
noncomputable def f_laws_szAtomS : (List (Int × (List Int))) → Int → Option (Int) := tyd [tLPILI, tI] [tI] (fnD (DOf c_laws_szAtomS) s_laws_szAtomS a_laws_szAtomS.L b_laws_szAtomS)
noncomputable def n_laws_szAtomS : Lf.Fn := ⟨s_laws_szAtomS, [tLPILI, tI], [tI], f_laws_szAtomS⟩
noncomputable def l1_laws_szAtomS (v0 : (List (Int × (List Int)))) (v16 : Int) (v80 : Int) : Option (Int) := (Jl (DOf c_laws_szAtomS) (irBlk a_laws_szAtomS.L b_laws_szAtomS) 1 [⟨tLPILI, v0⟩, ⟨tI, v16⟩, ⟨tI, v80⟩]).bind (readOuts [tI])
theorem k_laws_szAtomS : compFn Try.prog (sigsOf c_laws_szAtomS) s_laws_szAtomS a_laws_szAtomS = some b_laws_szAtomS := by kernel_rfl
theorem g_laws_szAtomS : Lf.Good Try.prog n_laws_szAtomS := good_of (by simp only [c_laws_szAtomS, List.mem_singleton]; rintro _ rfl; exact g_laws_szAtom) k_laws_szAtomS (by kernel_rfl) ⟨Try.f84, by kernel_rfl, by kernel_rfl, by kernel_rfl⟩ [tLPILI, tI] [tI]
theorem f_laws_szAtomS_eq (x0 : (List (Int × (List Int)))) (x1 : Int) : f_laws_szAtomS x0 x1 =
    bif (decide ((IntKind.wrap .i64 (x1 - (x0.length : Int))) < (0 : Int))) then
      some (-1 : Int)
    else
      l1_laws_szAtomS x0 (IntKind.wrap .i64 (x1 - (x0.length : Int))) (0 : Int) :=
  (show f_laws_szAtomS x0 x1 = (Jl (DOf c_laws_szAtomS) (irBlk a_laws_szAtomS.L b_laws_szAtomS) 0 [⟨tLPILI, x0⟩, ⟨tI, x1⟩]).bind (readOuts [tI]) by kernel_rfl).trans ((Jstep2 (DKOf_eq c_laws_szAtomS)).trans (by kernel_rfl))
theorem l1_laws_szAtomS_eq (v0 : (List (Int × (List Int)))) (v16 : Int) (v80 : Int) : l1_laws_szAtomS v0 v16 v80 =
    bif (decide (v80 < (v0.length : Int))) then
      (at? v0 v80).bind fun z1 =>
      (f_laws_szAtom z1 v16).bind fun z2 =>
      bif (decide (z2 < (0 : Int))) then
        some (-1 : Int)
      else
        l1_laws_szAtomS v0 z2 (IntKind.wrap .i64 (v80 + (1 : Int)))
    else
      some v16 :=
  (show l1_laws_szAtomS v0 v16 v80 = (Jl (DOf c_laws_szAtomS) (irBlk a_laws_szAtomS.L b_laws_szAtomS) 1 [⟨tLPILI, v0⟩, ⟨tI, v16⟩, ⟨tI, v80⟩]).bind (readOuts [tI]) by kernel_rfl).trans ((Jstep2 (DKOf_eq c_laws_szAtomS)).trans (by kernel_rfl))
/- loop.example/g01989/laws.szQuery -/
def s_laws_szQuery : Sig := ⟨23, [.v tPLILPILI, .v tI], [(tI, [none])]⟩
def a_laws_szQuery : FAnn := ⟨[⟨[(0, ⟨0, [], .va⟩), (1, ⟨0, [], .va⟩), (15, ⟨0, [], .pl 2 true⟩), (16, ⟨0, [], .va⟩), (31, ⟨0, [], .pl 1 false⟩)], [0, 1, 16]⟩],
  (.seq (.reg [aT, aT]) (.seq (.reg [aT, aT, aR, aT, aT]) (.seq (.seq (.reg [aR, aT]) (.cond none (.seq (.reg [aT]) .none) .none)) (.seq (.reg [aT, aT, aR, ⟨.take, 1, []⟩, aT]) (.seq (.seq (.reg [aR, aT]) (.cond none (.seq (.reg [aT]) .none) .none)) (.seq (.reg [aR, aT]) .none)))))),
  []⟩
def b_laws_szQuery : List (Nat × Tree) := [(0, (.ins (.grp [] [.cp 32 (.k 0), .cp 33 (.k 1)] (.grp [] [.cp 64 (.c (.int .i64 (0)))] .nil)) (.ins (.grp [] [.cp 96 (.k 32)] (.grp [] [.cp 112 (.k 16)] (.grp [] [.call 0 [(tLI, [(.k 96)]), (tI, [(.k 112)])] [[128]]] (.grp [] [.cp 16 (.k 128)] .nil)))) (.ins (.grp [] [.cp 144 (.k 16)] (.grp [] [.bin .lss 160 (.k 144) (.c (.int .i64 (0)))] .nil)) (.ite (.k 160) (.ins (.grp [] [.cp 64 (.c (.int .i64 (-1)))] .nil) (.ret [(tI, [(.k 64)])])) (.ins (.grp [] [.cp 192 (.k 33)] (.grp [] [.cp 208 (.k 16)] (.grp [] [.call 1 [(tLPILI, [(.k 192)]), (tI, [(.k 208)])] [[224]]] (.grp [] [.cp 16 (.k 224)] .nil)))) (.ins (.grp [] [.cp 240 (.k 16)] (.grp [] [.bin .lss 256 (.k 240) (.c (.int .i64 (0)))] .nil)) (.ite (.k 256) (.ins (.grp [] [.cp 64 (.c (.int .i64 (-1)))] .nil) (.ret [(tI, [(.k 64)])])) (.ins (.grp [] [.cp 272 (.k 16)] (.grp [] [.cp 64 (.k 272)] .nil)) (.ret [(tI, [(.k 64)])]))))))))))]
noncomputable def c_laws_szQuery : List Lf.Fn := [n_laws_szIntS, n_laws_szAtomS]
noncomputable def f_laws_szQuery : ((List Int) × (List (Int × (List Int)))) → Int → Option (Int) := tyd [tPLILPILI, tI] [tI] (fnD (DOf c_laws_szQuery) s_laws_szQuery a_laws_szQuery.L b_laws_szQuery)
noncomputable def n_laws_szQuery : Lf.Fn := ⟨s_laws_szQuery, [tPLILPILI, tI], [tI], f_laws_szQuery⟩
theorem k_laws_szQuery : compFn Try.prog (sigsOf c_laws_szQuery) s_laws_szQuery a_laws_szQuery = some b_laws_szQuery := by kernel_rfl
theorem g_laws_szQuery : Lf.Good Try.prog n_laws_szQuery := good_of (by simp only [c_laws_szQuery, List.mem_cons, List.not_mem_nil, or_false]; rintro _ (rfl | rfl); exact g_laws_szIntS; exact g_laws_szAtomS) k_laws_szQuery (by kernel_rfl) ⟨Try.f23, by kernel_rfl, by kernel_rfl, by kernel_rfl⟩ [tPLILPILI, tI] [tI]
theorem f_laws_szQuery_eq (x0 : ((List Int) × (List (Int × (List Int))))) (x1 : Int) : f_laws_szQuery x0 x1 =
    (f_laws_szIntS x0.1 x1).bind fun z1 =>
    bif (decide (z1 < (0 : Int))) then
      some (-1 : Int)
    else
      (f_laws_szAtomS x0.2 z1).bind fun z2 =>
      bif (decide (z2 < (0 : Int))) then
        some (-1 : Int)
      else
        some z2 :=
  (show f_laws_szQuery x0 x1 = (Jl (DOf c_laws_szQuery) (irBlk a_laws_szQuery.L b_laws_szQuery) 0 [⟨tLI, x0.1⟩, ⟨tLPILI, x0.2⟩, ⟨tI, x1⟩]).bind (readOuts [tI]) by kernel_rfl).trans ((Jstep2 (DKOf_eq c_laws_szQuery)).trans (by kernel_rfl))
/- loop.example/g01989/laws.szAccess -/
def s_laws_szAccess : Sig := ⟨16, [.v tPILI, .v tI], [(tI, [none])]⟩
def a_laws_szAccess : FAnn := ⟨[⟨[(0, ⟨0, [], .va⟩), (1, ⟨0, [], .va⟩), (15, ⟨0, [], .pl 2 true⟩), (16, ⟨0, [], .va⟩), (31, ⟨0, [], .pl 1 false⟩)], [0, 1, 16]⟩],
  (.seq (.reg [aT, aT]) (.seq (.reg [aT, aT, aR, aT, aT]) (.seq (.seq (.reg [aR, aT]) (.cond none (.seq (.reg [aT]) .none) .none)) (.seq (.reg [aR, aT]) .none)))),
  []⟩
def b_laws_szAccess : List (Nat × Tree) := [(0, (.ins (.grp [] [.cp 32 (.k 0), .cp 33 (.k 1)] (.grp [] [.cp 64 (.c (.int .i64 (0)))] .nil)) (.ins (.grp [] [.cp 96 (.k 33)] (.grp [] [.cp 112 (.k 16)] (.grp [] [.call 0 [(tLI, [(.k 96)]), (tI, [(.k 112)])] [[128]]] (.grp [] [.cp 16 (.k 128)] .nil)))) (.ins (.grp [] [.cp 144 (.k 16)] (.grp [] [.bin .lss 160 (.k 144) (.c (.int .i64 (0)))] .nil)) (.ite (.k 160) (.ins (.grp [] [.cp 64 (.c (.int .i64 (-1)))] .nil) (.ret [(tI, [(.k 64)])])) (.ins (.grp [] [.cp 176 (.k 16)] (.grp [] [.cp 64 (.k 176)] .nil)) (.ret [(tI, [(.k 64)])])))))))]
noncomputable def c_laws_szAccess : List Lf.Fn := [n_laws_szIntS]
noncomputable def f_laws_szAccess : (Int × (List Int)) → Int → Option (Int) := tyd [tPILI, tI] [tI] (fnD (DOf c_laws_szAccess) s_laws_szAccess a_laws_szAccess.L b_laws_szAccess)
noncomputable def n_laws_szAccess : Lf.Fn := ⟨s_laws_szAccess, [tPILI, tI], [tI], f_laws_szAccess⟩
theorem k_laws_szAccess : compFn Try.prog (sigsOf c_laws_szAccess) s_laws_szAccess a_laws_szAccess = some b_laws_szAccess := by kernel_rfl
theorem g_laws_szAccess : Lf.Good Try.prog n_laws_szAccess := good_of (by simp only [c_laws_szAccess, List.mem_singleton]; rintro _ rfl; exact g_laws_szIntS) k_laws_szAccess (by kernel_rfl) ⟨Try.f16, by kernel_rfl, by kernel_rfl, by kernel_rfl⟩ [tPILI, tI] [tI]
theorem f_laws_szAccess_eq (x0 : (Int × (List Int))) (x1 : Int) : f_laws_szAccess x0 x1 =
    (f_laws_szIntS x0.2 x1).bind fun z1 =>
    bif (decide (z1 < (0 : Int))) then
      some (-1 : Int)
    else
      some z1 :=
  (show f_laws_szAccess x0 x1 = (Jl (DOf c_laws_szAccess) (irBlk a_laws_szAccess.L b_laws_szAccess) 0 [⟨tI, x0.1⟩, ⟨tLI, x0.2⟩, ⟨tI, x1⟩]).bind (readOuts [tI]) by kernel_rfl).trans ((Jstep2 (DKOf_eq c_laws_szAccess)).trans (by kernel_rfl))
/- loop.example/g01989/laws.toIntS -/
def s_laws_toIntS : Sig := ⟨72, [.v tLI], [(tLI, [some .sc])]⟩
def a_laws_toIntS : FAnn := ⟨[⟨[(0, ⟨0, [], .va⟩), (15, ⟨0, [], .pl 1 false⟩)], [0]⟩,
    ⟨[(0, ⟨0, [], .va⟩), (15, ⟨0, [], .pl 1 false⟩), (48, ⟨0, [], .ro .sc none⟩), (63, ⟨0, [], .pl 1 false⟩), (64, ⟨0, [], .va⟩), (79, ⟨0, [], .pl 1 false⟩)], [0, 48, 64]⟩],
  (.seq (.reg [aT]) (.seq (.reg [aR, aT, aT, aT]) (.seq (.seq (.reg [aT]) (.block none (.loop 1 (.seq (.seq (.reg [aR, aR, aT, aT]) (.cond none .none .none)) (.seq (.block none (.reg [aR, aR, aR, aR, aT, aT, aT, aT])) (.reg [aR, aT, aT])))))) (.seq (.reg [aR, aT]) .none)))),
  []⟩
def b_laws_toIntS : List (Nat × Tree) := [(0, (.ins (.grp [] [.cp 32 (.c (.nil tI))] .nil) (.ins (.grp [] [.cp 80 (.k 0)] (.grp [] [.len false 96 (.k 80)] (.grp [] [.mk 112 tI (.k 96)] (.grp [] [.cp 48 (.k 112)] .nil)))) (.ins (.grp [] [.cp 64 (.c (.int .i64 (0)))] .nil) (.jump 1 [0, 48, 64]))))),
  (1, (.ins (.grp [] [.cp 128 (.k 64)] (.grp [] [.cp 144 (.k 0)] (.grp [] [.len false 160 (.k 144)] (.grp [] [.bin .lss 176 (.k 128) (.k 160)] .nil)))) (.ite (.k 176) (.ins (.grp [] [.cp 224 (.k 48)] (.grp [] [.cp 240 (.k 64)] (.grp [] [.cp 256 (.k 0)] (.grp [] [.cp 272 (.k 64)] (.grp [] [.idx (some tI) [288] 0 (.k 256) (.k 272)] (.grp [] [.cp 304 (.k 288)] (.grp [] [.chk tI (.k 48) (.k 240)] (.grp [] [.setE 48 (.k 240) 0 [tI] [(.k 304)]] .nil)))))))) (.ins (.grp [] [.cp 192 (.k 64)] (.grp [] [.bin .add 208 (.k 192) (.c (.int .i64 (1)))] (.grp [] [.cp 64 (.k 208)] .nil))) (.jump 1 [0, 48, 64]))) (.ins (.grp [] [.cp 336 (.k 48)] (.grp [] [.cp 32 (.k 48)] .nil)) (.ret [(tLI, [(.k 32)])])))))]
noncomputable def c_laws_toIntS : List Lf.Fn := []
noncomputable def f_laws_toIntS : (List Int) → Option ((List Int)) := tyd [tLI] [tLI] (fnD (DOf c_laws_toIntS) s_laws_toIntS a_laws_toIntS.L b_laws_toIntS)
noncomputable def n_laws_toIntS : Lf.Fn := ⟨s_laws_toIntS, [tLI], [tLI], f_laws_toIntS⟩
noncomputable def l1_laws_toIntS (v0 : (List Int)) (v48 : (List Int)) (v64 : Int) : Option ((List Int)) := (Jl (DOf c_laws_toIntS) (irBlk a_laws_toIntS.L b_laws_toIntS) 1 [⟨tLI, v0⟩, ⟨tLI, v48⟩, ⟨tI, v64⟩]).bind (readOuts [tLI])
theorem k_laws_toIntS : compFn Try.prog (sigsOf c_laws_toIntS) s_laws_toIntS a_laws_toIntS = some b_laws_toIntS := by kernel_rfl
theorem g_laws_toIntS : Lf.Good Try.prog n_laws_toIntS := good_of (by intro _ h; simp [c_laws_toIntS] at h) k_laws_toIntS (by kernel_rfl) ⟨Try.f72, by kernel_rfl, by kernel_rfl, by kernel_rfl⟩ [tLI] [tLI]
theorem f_laws_toIntS_eq (x0 : (List Int)) : f_laws_toIntS x0 =
    bif mkOk (x0.length : Int) then
    l1_laws_toIntS x0 (List.replicate (Int.toNat (x0.length : Int)) (0 : Int)) (0 : Int)
    else none :=
  (show f_laws_toIntS x0 = (Jl (DOf c_laws_toIntS) (irBlk a_laws_toIntS.L b_laws_toIntS) 0 [⟨tLI, x0⟩]).bind (readOuts [tLI]) by kernel_rfl).trans ((Jstep2 (DKOf_eq c_laws_toIntS)).trans (by kernel_rfl))
theorem l1_laws_toIntS_eq (v0 : (List Int)) (v48 : (List Int)) (v64 : Int) : l1_laws_toIntS v0 v48 v64 =
    bif (decide (v64 < (v0.length : Int))) then
      (at? v0 v64).bind fun z1 =>
      (at? v48 v64).bind fun _ =>
      (at? v48 v64).bind fun z2 =>
      l1_laws_toIntS v0 (v48.set (Int.toNat v64) z1) (IntKind.wrap .i64 (v64 + (1 : Int)))
    else
      some v48 :=
  (show l1_laws_toIntS v0 v48 v64 = (Jl (DOf c_laws_toIntS) (irBlk a_laws_toIntS.L b_laws_toIntS) 1 [⟨tLI, v0⟩, ⟨tLI, v48⟩, ⟨tI, v64⟩]).bind (readOuts [tLI]) by kernel_rfl).trans ((Jstep2 (DKOf_eq c_laws_toIntS)).trans (by kernel_rfl))
/- loop.example/g01989/laws.toMethod -/
def s_laws_toMethod : Sig := ⟨87, [.v tPIPLIPIPII], [(tPIPLIPIPII, [none, some .sc, none, none, none])]⟩
def a_laws_toMethod : FAnn := ⟨[⟨[(0, ⟨0, [], .va⟩), (1, ⟨0, [], .va⟩), (2, ⟨0, [], .va⟩), (3, ⟨0, [], .va⟩), (4, ⟨0, [], .va⟩), (15, ⟨0, [], .pl 5 true⟩)], [0, 1, 2, 3, 4]⟩],
  (.seq (.reg [aT, aT]) (.seq (.reg [aT]) (.seq (.reg [aT, aT, aT, aT]) (.seq (.reg [aT, aT, aT, aT, aT]) (.seq (.reg [aT, aT, aT, aT]) (.seq (.reg [aT, aT, aT, aT]) (.seq (.reg [aT, aT, aT, aT]) (.seq (.reg [aT, aT]) .none)))))))),
  []⟩
def b_laws_toMethod : List (Nat × Tree) := [(0, (.ins (.grp [] [.cp 16 (.k 0), .cp 17 (.k 1), .cp 18 (.k 2), .cp 19 (.k 3), .cp 20 (.k 4)] (.grp [] [.cp 32 (.c (.int .i64 (0))), .cp 33 (.c (.nil tI)), .cp 34 (.c (.int .i64 (0))), .cp 35 (.c (.int .i64 (0))), .cp 36 (.c (.int .i64 (0)))] .nil)) (.ins (.grp [] [.cp 48 (.c (.int .i64 (0))), .cp 49 (.c (.nil tI)), .cp 50 (.c (.int .i64 (0))), .cp 51 (.c (.int .i64 (0))), .cp 52 (.c (.int .i64 (0)))] .nil) (.ins (.grp [] [.cp 80 (.k 16)] (.grp [] [.cp 48 (.k 80)] .nil)) (.ins (.grp [] [.cp 128 (.k 17)] (.grp [] [.call 0 [(tLI, [(.k 128)])] [[144]]] (.grp [] [.cp 49 (.k 144)] .nil))) (.ins (.grp [] [.cp 192 (.k 18)] (.grp [] [.cp 50 (.k 192)] .nil)) (.ins (.grp [] [.cp 240 (.k 19)] (.grp [] [.cp 51 (.k 240)] .nil)) (.ins (.grp [] [.cp 288 (.k 20)] (.grp [] [.cp 52 (.k 288)] .nil)) (.ins (.grp [] [.cp 320 (.k 48), .cp 321 (.k 49), .cp 322 (.k 50), .cp 323 (.k 51), .cp 324 (.k 52)] (.grp [] [.cp 32 (.k 320), .cp 33 (.k 49), .cp 34 (.k 322), .cp 35 (.k 323), .cp 36 (.k 324)] .nil)) (.ret [(tPIPLIPIPII, [(.k 32), (.k 33), (.k 34), (.k 35), (.k 36)])]))))))))))]
noncomputable def c_laws_toMethod : List Lf.Fn := [n_laws_toIntS]
noncomputable def f_laws_toMethod : (Int × ((List Int) × (Int × (Int × Int)))) → Option ((Int × ((List Int) × (Int × (Int × Int))))) := tyd [tPIPLIPIPII] [tPIPLIPIPII] (fnD (DOf c_laws_toMethod) s_laws_toMethod a_laws_toMethod.L b_laws_toMethod)
noncomputable def n_laws_toMethod : Lf.Fn := ⟨s_laws_toMethod, [tPIPLIPIPII], [tPIPLIPIPII], f_laws_toMethod⟩
theorem k_laws_toMethod : compFn Try.prog (sigsOf c_laws_toMethod) s_laws_toMethod a_laws_toMethod = some b_laws_toMethod := by kernel_rfl
theorem g_laws_toMethod : Lf.Good Try.prog n_laws_toMethod := good_of (by simp only [c_laws_toMethod, List.mem_singleton]; rintro _ rfl; exact g_laws_toIntS) k_laws_toMethod (by kernel_rfl) ⟨Try.f87, by kernel_rfl, by kernel_rfl, by kernel_rfl⟩ [tPIPLIPIPII] [tPIPLIPIPII]
theorem f_laws_toMethod_eq (x0 : (Int × ((List Int) × (Int × (Int × Int))))) : f_laws_toMethod x0 =
    (f_laws_toIntS x0.2.1).bind fun z1 =>
    some (x0.1, (z1, x0.2.2)) :=
  (show f_laws_toMethod x0 = (Jl (DOf c_laws_toMethod) (irBlk a_laws_toMethod.L b_laws_toMethod) 0 [⟨tI, x0.1⟩, ⟨tLI, x0.2.1⟩, ⟨tI, x0.2.2.1⟩, ⟨tI, x0.2.2.2.1⟩, ⟨tI, x0.2.2.2.2⟩]).bind (readOuts [tPIPLIPIPII]) by kernel_rfl).trans ((Jstep2 (DKOf_eq c_laws_toMethod)).trans (by kernel_rfl))
/- loop.example/g01989/laws.toMethodS -/
def s_laws_toMethodS : Sig := ⟨27, [.v tLPIPLIPIPII], [(tLPIPLIPIPII, [some m46dba])]⟩
def a_laws_toMethodS : FAnn := ⟨[⟨[(0, ⟨0, [], .va⟩), (15, ⟨0, [], .pl 1 false⟩)], [0]⟩,
    ⟨[(0, ⟨0, [], .va⟩), (15, ⟨0, [], .pl 1 false⟩), (48, ⟨0, [], .ro m46dba none⟩), (63, ⟨0, [], .pl 1 false⟩), (64, ⟨0, [], .va⟩), (79, ⟨0, [], .pl 1 false⟩)], [0, 48, 64]⟩],
  (.seq (.reg [aT]) (.seq (.reg [aR, aT, aT, aT]) (.seq (.seq (.reg [aT]) (.block none (.loop 1 (.seq (.seq (.reg [aR, aR, aT, aT]) (.cond none .none .none)) (.seq (.block none (.reg [aR, aR, aR, aR, aT, aT, aT, aT, aT])) (.reg [aR, aT, aT])))))) (.seq (.reg [aR, aT]) .none)))),
  []⟩
def b_laws_toMethodS : List (Nat × Tree) := [(0, (.ins (.grp [] [.cp 32 (.c (.nil tPIPLIPIPII))] .nil) (.ins (.grp [] [.cp 80 (.k 0)] (.grp [] [.len false 96 (.k 80)] (.grp [] [.mk 112 tPIPLIPIPII (.k 96)] (.grp [] [.cp 48 (.k 112)] .nil)))) (.ins (.grp [] [.cp 64 (.c (.int .i64 (0)))] .nil) (.jump 1 [0, 48, 64]))))),
  (1, (.ins (.grp [] [.cp 128 (.k 64)] (.grp [] [.cp 144 (.k 0)] (.grp [] [.len false 160 (.k 144)] (.grp [] [.bin .lss 176 (.k 128) (.k 160)] .nil)))) (.ite (.k 176) (.ins (.grp [] [.cp 224 (.k 48)] (.grp [] [.cp 240 (.k 64)] (.grp [] [.cp 256 (.k 0)] (.grp [] [.cp 272 (.k 64)] (.grp [] [.idx (some tPIPLIPIPII) [288, 289, 290, 291, 292] 0 (.k 256) (.k 272)] (.grp [] [.cp 304 (.k 288), .cp 305 (.k 289), .cp 306 (.k 290), .cp 307 (.k 291), .cp 308 (.k 292)] (.grp [] [.call 0 [(tPIPLIPIPII, [(.k 304), (.k 305), (.k 306), (.k 307), (.k 308)])] [[320, 321, 322, 323, 324]]] (.grp [] [.chk tPIPLIPIPII (.k 48) (.k 240)] (.grp [] [.setE 48 (.k 240) 0 [tI, tLI, tI, tI, tI] [(.k 320), (.k 321), (.k 322), (.k 323), (.k 324)]] .nil))))))))) (.ins (.grp [] [.cp 192 (.k 64)] (.grp [] [.bin .add 208 (.k 192) (.c (.int .i64 (1)))] (.grp [] [.cp 64 (.k 208)] .nil))) (.jump 1 [0, 48, 64]))) (.ins (.grp [] [.cp 352 (.k 48)] (.grp [] [.cp 32 (.k 48)] .nil)) (.ret [(tLPIPLIPIPII, [(.k 32)])])))))]
noncomputable def c_laws_toMethodS : List Lf.Fn := [n_laws_toMethod]
noncomputable def f_laws_toMethodS : (List (Int × ((List Int) × (Int × (Int × Int))))) → Option ((List (Int × ((List Int) × (Int × (Int × Int)))))) := tyd [tLPIPLIPIPII] [tLPIPLIPIPII] (fnD (DOf c_laws_toMethodS) s_laws_toMethodS a_laws_toMethodS.L b_laws_toMethodS)
noncomputable def n_laws_toMethodS : Lf.Fn := ⟨s_laws_toMethodS, [tLPIPLIPIPII], [tLPIPLIPIPII], f_laws_toMethodS⟩
noncomputable def l1_laws_toMethodS (v0 : (List (Int × ((List Int) × (Int × (Int × Int)))))) (v48 : (List (Int × ((List Int) × (Int × (Int × Int)))))) (v64 : Int) : Option ((List (Int × ((List Int) × (Int × (Int × Int)))))) := (Jl (DOf c_laws_toMethodS) (irBlk a_laws_toMethodS.L b_laws_toMethodS) 1 [⟨tLPIPLIPIPII, v0⟩, ⟨tLPIPLIPIPII, v48⟩, ⟨tI, v64⟩]).bind (readOuts [tLPIPLIPIPII])
theorem k_laws_toMethodS : compFn Try.prog (sigsOf c_laws_toMethodS) s_laws_toMethodS a_laws_toMethodS = some b_laws_toMethodS := by kernel_rfl
theorem g_laws_toMethodS : Lf.Good Try.prog n_laws_toMethodS := good_of (by simp only [c_laws_toMethodS, List.mem_singleton]; rintro _ rfl; exact g_laws_toMethod) k_laws_toMethodS (by kernel_rfl) ⟨Try.f27, by kernel_rfl, by kernel_rfl, by kernel_rfl⟩ [tLPIPLIPIPII] [tLPIPLIPIPII]
theorem f_laws_toMethodS_eq (x0 : (List (Int × ((List Int) × (Int × (Int × Int)))))) : f_laws_toMethodS x0 =
    bif mkOk (x0.length : Int) then
    l1_laws_toMethodS x0 (List.replicate (Int.toNat (x0.length : Int)) ((0 : Int), (([] : List Int), ((0 : Int), ((0 : Int), (0 : Int)))))) (0 : Int)
    else none :=
  (show f_laws_toMethodS x0 = (Jl (DOf c_laws_toMethodS) (irBlk a_laws_toMethodS.L b_laws_toMethodS) 0 [⟨tLPIPLIPIPII, x0⟩]).bind (readOuts [tLPIPLIPIPII]) by kernel_rfl).trans ((Jstep2 (DKOf_eq c_laws_toMethodS)).trans (by kernel_rfl))
theorem l1_laws_toMethodS_eq (v0 : (List (Int × ((List Int) × (Int × (Int × Int)))))) (v48 : (List (Int × ((List Int) × (Int × (Int × Int)))))) (v64 : Int) : l1_laws_toMethodS v0 v48 v64 =
    bif (decide (v64 < (v0.length : Int))) then
      (at? v0 v64).bind fun z1 =>
      (f_laws_toMethod z1).bind fun z2 =>
      (at? v48 v64).bind fun _ =>
      (at? v48 v64).bind fun z3 =>
      l1_laws_toMethodS v0 (v48.set (Int.toNat v64) z2) (IntKind.wrap .i64 (v64 + (1 : Int)))
    else
      some v48 :=
  (show l1_laws_toMethodS v0 v48 v64 = (Jl (DOf c_laws_toMethodS) (irBlk a_laws_toMethodS.L b_laws_toMethodS) 1 [⟨tLPIPLIPIPII, v0⟩, ⟨tLPIPLIPIPII, v48⟩, ⟨tI, v64⟩]).bind (readOuts [tLPIPLIPIPII]) by kernel_rfl).trans ((Jstep2 (DKOf_eq c_laws_toMethodS)).trans (by kernel_rfl))
/- loop.example/g01989/laws.toAtom -/
def s_laws_toAtom : Sig := ⟨150, [.v tPILI], [(tPILI, [none, some .sc])]⟩
def a_laws_toAtom : FAnn := ⟨[⟨[(0, ⟨0, [], .va⟩), (1, ⟨0, [], .va⟩), (15, ⟨0, [], .pl 2 true⟩)], [0, 1]⟩],
  (.seq (.reg [aT, aT]) (.seq (.reg [aT]) (.seq (.reg [aT, aT, aT, aT]) (.seq (.reg [aT, aT, aT, aT, aT]) (.seq (.reg [aT, aT]) .none))))),
  []⟩
def b_laws_toAtom : List (Nat × Tree) := [(0, (.ins (.grp [] [.cp 16 (.k 0), .cp 17 (.k 1)] (.grp [] [.cp 32 (.c (.int .i64 (0))), .cp 33 (.c (.nil tI))] .nil)) (.ins (.grp [] [.cp 48 (.c (.int .i64 (0))), .cp 49 (.c (.nil tI))] .nil) (.ins (.grp [] [.cp 80 (.k 16)] (.grp [] [.cp 48 (.k 80)] .nil)) (.ins (.grp [] [.cp 128 (.k 17)] (.grp [] [.call 0 [(tLI, [(.k 128)])] [[144]]] (.grp [] [.cp 49 (.k 144)] .nil))) (.ins (.grp [] [.cp 176 (.k 48), .cp 177 (.k 49)] (.grp [] [.cp 32 (.k 176), .cp 33 (.k 49)] .nil)) (.ret [(tPILI, [(.k 32), (.k 33)])])))))))]
noncomputable def c_laws_toAtom : List Lf.Fn := [n_laws_toIntS]
noncomputable def f_laws_toAtom : (Int × (List Int)) → Option ((Int × (List Int))) := tyd [tPILI] [tPILI] (fnD (DOf c_laws_toAtom) s_laws_toAtom a_laws_toAtom.L b_laws_toAtom)
noncomputable def n_laws_toAtom : Lf.Fn := ⟨s_laws_toAtom, [tPILI], [tPILI], f_laws_toAtom⟩
theorem k_laws_toAtom : compFn Try.prog (sigsOf c_laws_toAtom) s_laws_toAtom a_laws_toAtom = some b_laws_toAtom := by kernel_rfl
theorem g_laws_toAtom : Lf.Good Try.prog n_laws_toAtom := good_of (by simp only [c_laws_toAtom, List.mem_singleton]; rintro _ rfl; exact g_laws_toIntS) k_laws_toAtom (by kernel_rfl) ⟨Try.f150, by kernel_rfl, by kernel_rfl, by kernel_rfl⟩ [tPILI] [tPILI]
theorem f_laws_toAtom_eq (x0 : (Int × (List Int))) : f_laws_toAtom x0 =
    (f_laws_toIntS x0.2).bind fun z1 =>
    some (x0.1, z1) :=
  (show f_laws_toAtom x0 = (Jl (DOf c_laws_toAtom) (irBlk a_laws_toAtom.L b_laws_toAtom) 0 [⟨tI, x0.1⟩, ⟨tLI, x0.2⟩]).bind (readOuts [tPILI]) by kernel_rfl).trans ((Jstep2 (DKOf_eq c_laws_toAtom)).trans (by kernel_rfl))
/- loop.example/g01989/laws.toAtomS -/
def s_laws_toAtomS : Sig := ⟨86, [.v tLPILI], [(tLPILI, [some mca4df])]⟩
def a_laws_toAtomS : FAnn := ⟨[⟨[(0, ⟨0, [], .va⟩), (15, ⟨0, [], .pl 1 false⟩)], [0]⟩,
    ⟨[(0, ⟨0, [], .va⟩), (15, ⟨0, [], .pl 1 false⟩), (48, ⟨0, [], .ro mca4df none⟩), (63, ⟨0, [], .pl 1 false⟩), (64, ⟨0, [], .va⟩), (79, ⟨0, [], .pl 1 false⟩)], [0, 48, 64]⟩],
  (.seq (.reg [aT]) (.seq (.reg [aR, aT, aT, aT]) (.seq (.seq (.reg [aT]) (.block none (.loop 1 (.seq (.seq (.reg [aR, aR, aT, aT]) (.cond none .none .none)) (.seq (.block none (.reg [aR, aR, aR, aR, aT, aT, aT, aT, aT])) (.reg [aR, aT, aT])))))) (.seq (.reg [aR, aT]) .none)))),
  []⟩
def b_laws_toAtomS : List (Nat × Tree) := [(0, (.ins (.grp [] [.cp 32 (.c (.nil tPILI))] .nil) (.ins (.grp [] [.cp 80 (.k 0)] (.grp [] [.len false 96 (.k 80)] (.grp [] [.mk 112 tPILI (.k 96)] (.grp [] [.cp 48 (.k 112)] .nil)))) (.ins (.grp [] [.cp 64 (.c (.int .i64 (0)))] .nil) (.jump 1 [0, 48, 64]))))),
  (1, (.ins (.grp [] [.cp 128 (.k 64)] (.grp [] [.cp 144 (.k 0)] (.grp [] [.len false 160 (.k 144)] (.grp [] [.bin .lss 176 (.k 128) (.k 160)] .nil)))) (.ite (.k 176) (.ins (.grp [] [.cp 224 (.k 48)] (.grp [] [.cp 240 (.k 64)] (.grp [] [.cp 256 (.k 0)] (.grp [] [.cp 272 (.k 64)] (.grp [] [.idx (some tPILI) [288, 289] 0 (.k 256) (.k 272)] (.grp [] [.cp 304 (.k 288), .cp 305 (.k 289)] (.grp [] [.call 0 [(tPILI, [(.k 304), (.k 305)])] [[320, 321]]] (.grp [] [.chk tPILI (.k 48) (.k 240)] (.grp [] [.setE 48 (.k 240) 0 [tI, tLI] [(.k 320), (.k 321)]] .nil))))))))) (.ins (.grp [] [.cp 192 (.k 64)] (.grp [] [.bin .add 208 (.k 192) (.c (.int .i64 (1)))] (.grp [] [.cp 64 (.k 208)] .nil))) (.jump 1 [0, 48, 64]))) (.ins (.grp [] [.cp 352 (.k 48)] (.grp [] [.cp 32 (.k 48)] .nil)) (.ret [(tLPILI, [(.k 32)])])))))]
noncomputable def c_laws_toAtomS : List Lf.Fn := [n_laws_toAtom]
noncomputable def f_laws_toAtomS : (List (Int × (List Int))) → Option ((List (Int × (List Int)))) := tyd [tLPILI] [tLPILI] (fnD (DOf c_laws_toAtomS) s_laws_toAtomS a_laws_toAtomS.L b_laws_toAtomS)
noncomputable def n_laws_toAtomS : Lf.Fn := ⟨s_laws_toAtomS, [tLPILI], [tLPILI], f_laws_toAtomS⟩
noncomputable def l1_laws_toAtomS (v0 : (List (Int × (List Int)))) (v48 : (List (Int × (List Int)))) (v64 : Int) : Option ((List (Int × (List Int)))) := (Jl (DOf c_laws_toAtomS) (irBlk a_laws_toAtomS.L b_laws_toAtomS) 1 [⟨tLPILI, v0⟩, ⟨tLPILI, v48⟩, ⟨tI, v64⟩]).bind (readOuts [tLPILI])
theorem k_laws_toAtomS : compFn Try.prog (sigsOf c_laws_toAtomS) s_laws_toAtomS a_laws_toAtomS = some b_laws_toAtomS := by kernel_rfl
theorem g_laws_toAtomS : Lf.Good Try.prog n_laws_toAtomS := good_of (by simp only [c_laws_toAtomS, List.mem_singleton]; rintro _ rfl; exact g_laws_toAtom) k_laws_toAtomS (by kernel_rfl) ⟨Try.f86, by kernel_rfl, by kernel_rfl, by kernel_rfl⟩ [tLPILI] [tLPILI]
theorem f_laws_toAtomS_eq (x0 : (List (Int × (List Int)))) : f_laws_toAtomS x0 =
    bif mkOk (x0.length : Int) then
    l1_laws_toAtomS x0 (List.replicate (Int.toNat (x0.length : Int)) ((0 : Int), ([] : List Int))) (0 : Int)
    else none :=
  (show f_laws_toAtomS x0 = (Jl (DOf c_laws_toAtomS) (irBlk a_laws_toAtomS.L b_laws_toAtomS) 0 [⟨tLPILI, x0⟩]).bind (readOuts [tLPILI]) by kernel_rfl).trans ((Jstep2 (DKOf_eq c_laws_toAtomS)).trans (by kernel_rfl))
theorem l1_laws_toAtomS_eq (v0 : (List (Int × (List Int)))) (v48 : (List (Int × (List Int)))) (v64 : Int) : l1_laws_toAtomS v0 v48 v64 =
    bif (decide (v64 < (v0.length : Int))) then
      (at? v0 v64).bind fun z1 =>
      (f_laws_toAtom z1).bind fun z2 =>
      (at? v48 v64).bind fun _ =>
      (at? v48 v64).bind fun z3 =>
      l1_laws_toAtomS v0 (v48.set (Int.toNat v64) z2) (IntKind.wrap .i64 (v64 + (1 : Int)))
    else
      some v48 :=
  (show l1_laws_toAtomS v0 v48 v64 = (Jl (DOf c_laws_toAtomS) (irBlk a_laws_toAtomS.L b_laws_toAtomS) 1 [⟨tLPILI, v0⟩, ⟨tLPILI, v48⟩, ⟨tI, v64⟩]).bind (readOuts [tLPILI]) by kernel_rfl).trans ((Jstep2 (DKOf_eq c_laws_toAtomS)).trans (by kernel_rfl))
/- loop.example/g01989/laws.toQuery -/
def s_laws_toQuery : Sig := ⟨26, [.v tPLILPILI], [(tPLILPILI, [some .sc, some mca4df])]⟩
def a_laws_toQuery : FAnn := ⟨[⟨[(0, ⟨0, [], .va⟩), (1, ⟨0, [], .va⟩), (15, ⟨0, [], .pl 2 true⟩)], [0, 1]⟩],
  (.seq (.reg [aT, aT]) (.seq (.reg [aT]) (.seq (.reg [aT, aT, aT, aT, aT]) (.seq (.reg [aT, aT, ⟨.take, 1, []⟩, aT, aT]) (.seq (.reg [aT, aT]) .none))))),
  []⟩
def b_laws_toQuery : List (Nat × Tree) := [(0, (.ins (.grp [] [.cp 16 (.k 0), .cp 17 (.k 1)] (.grp [] [.cp 32 (.c (.nil tI)), .cp 33 (.c (.nil tPILI))] .nil)) (.ins (.grp [] [.cp 48 (.c (.nil tI)), .cp 49 (.c (.nil tPILI))] .nil) (.ins (.grp [] [.cp 80 (.k 16)] (.grp [] [.call 0 [(tLI, [(.k 80)])] [[96]]] (.grp [] [.cp 48 (.k 96)] .nil))) (.ins (.grp [] [.cp 144 (.k 17)] (.grp [] [.call 1 [(tLPILI, [(.k 144)])] [[160]]] (.grp [] [.cp 49 (.k 160)] .nil))) (.ins (.grp [] [.cp 192 (.k 48), .cp 193 (.k 49)] (.grp [] [.cp 32 (.k 48), .cp 33 (.k 49)] .nil)) (.ret [(tPLILPILI, [(.k 32), (.k 33)])])))))))]
noncomputable def c_laws_toQuery : List Lf.Fn := [n_laws_toIntS, n_laws_toAtomS]
noncomputable def f_laws_toQuery : ((List Int) × (List (Int × (List Int)))) → Option (((List Int) × (List (Int × (List Int))))) := tyd [tPLILPILI] [tPLILPILI] (fnD (DOf c_laws_toQuery) s_laws_toQuery a_laws_toQuery.L b_laws_toQuery)
noncomputable def n_laws_toQuery : Lf.Fn := ⟨s_laws_toQuery, [tPLILPILI], [tPLILPILI], f_laws_toQuery⟩
theorem k_laws_toQuery : compFn Try.prog (sigsOf c_laws_toQuery) s_laws_toQuery a_laws_toQuery = some b_laws_toQuery := by kernel_rfl
theorem g_laws_toQuery : Lf.Good Try.prog n_laws_toQuery := good_of (by simp only [c_laws_toQuery, List.mem_cons, List.not_mem_nil, or_false]; rintro _ (rfl | rfl); exact g_laws_toIntS; exact g_laws_toAtomS) k_laws_toQuery (by kernel_rfl) ⟨Try.f26, by kernel_rfl, by kernel_rfl, by kernel_rfl⟩ [tPLILPILI] [tPLILPILI]
theorem f_laws_toQuery_eq (x0 : ((List Int) × (List (Int × (List Int))))) : f_laws_toQuery x0 =
    (f_laws_toIntS x0.1).bind fun z1 =>
    (f_laws_toAtomS x0.2).bind fun z2 =>
    some (z1, z2) :=
  (show f_laws_toQuery x0 = (Jl (DOf c_laws_toQuery) (irBlk a_laws_toQuery.L b_laws_toQuery) 0 [⟨tLI, x0.1⟩, ⟨tLPILI, x0.2⟩]).bind (readOuts [tPLILPILI]) by kernel_rfl).trans ((Jstep2 (DKOf_eq c_laws_toQuery)).trans (by kernel_rfl))
/- loop.example/g01989/laws.toAccess -/
def s_laws_toAccess : Sig := ⟨19, [.v tPILI], [(tPILI, [none, some .sc])]⟩
def a_laws_toAccess : FAnn := ⟨[⟨[(0, ⟨0, [], .va⟩), (1, ⟨0, [], .va⟩), (15, ⟨0, [], .pl 2 true⟩)], [0, 1]⟩],
  (.seq (.reg [aT, aT]) (.seq (.reg [aT]) (.seq (.reg [aT, aT, aT, aT]) (.seq (.reg [aT, aT, aT, aT, aT]) (.seq (.reg [aT, aT]) .none))))),
  []⟩
def b_laws_toAccess : List (Nat × Tree) := [(0, (.ins (.grp [] [.cp 16 (.k 0), .cp 17 (.k 1)] (.grp [] [.cp 32 (.c (.int .i64 (0))), .cp 33 (.c (.nil tI))] .nil)) (.ins (.grp [] [.cp 48 (.c (.int .i64 (0))), .cp 49 (.c (.nil tI))] .nil) (.ins (.grp [] [.cp 80 (.k 16)] (.grp [] [.cp 48 (.k 80)] .nil)) (.ins (.grp [] [.cp 128 (.k 17)] (.grp [] [.call 0 [(tLI, [(.k 128)])] [[144]]] (.grp [] [.cp 49 (.k 144)] .nil))) (.ins (.grp [] [.cp 176 (.k 48), .cp 177 (.k 49)] (.grp [] [.cp 32 (.k 176), .cp 33 (.k 49)] .nil)) (.ret [(tPILI, [(.k 32), (.k 33)])])))))))]
noncomputable def c_laws_toAccess : List Lf.Fn := [n_laws_toIntS]
noncomputable def f_laws_toAccess : (Int × (List Int)) → Option ((Int × (List Int))) := tyd [tPILI] [tPILI] (fnD (DOf c_laws_toAccess) s_laws_toAccess a_laws_toAccess.L b_laws_toAccess)
noncomputable def n_laws_toAccess : Lf.Fn := ⟨s_laws_toAccess, [tPILI], [tPILI], f_laws_toAccess⟩
theorem k_laws_toAccess : compFn Try.prog (sigsOf c_laws_toAccess) s_laws_toAccess a_laws_toAccess = some b_laws_toAccess := by kernel_rfl
theorem g_laws_toAccess : Lf.Good Try.prog n_laws_toAccess := good_of (by simp only [c_laws_toAccess, List.mem_singleton]; rintro _ rfl; exact g_laws_toIntS) k_laws_toAccess (by kernel_rfl) ⟨Try.f19, by kernel_rfl, by kernel_rfl, by kernel_rfl⟩ [tPILI] [tPILI]
theorem f_laws_toAccess_eq (x0 : (Int × (List Int))) : f_laws_toAccess x0 =
    (f_laws_toIntS x0.2).bind fun z1 =>
    some (x0.1, z1) :=
  (show f_laws_toAccess x0 = (Jl (DOf c_laws_toAccess) (irBlk a_laws_toAccess.L b_laws_toAccess) 0 [⟨tI, x0.1⟩, ⟨tLI, x0.2⟩]).bind (readOuts [tPILI]) by kernel_rfl).trans ((Jstep2 (DKOf_eq c_laws_toAccess)).trans (by kernel_rfl))
/- loop.example/g01989/spec.l1In -/
def s_spec_l1In : Sig := ⟨90, [.v tI, .v tI, .v tI], [(.bool, [none])]⟩
def a_spec_l1In : FAnn := ⟨[⟨[(0, ⟨0, [], .va⟩), (15, ⟨0, [], .pl 1 false⟩), (16, ⟨0, [], .va⟩), (31, ⟨0, [], .pl 1 false⟩), (32, ⟨0, [], .va⟩), (47, ⟨0, [], .pl 1 false⟩)], [0, 16, 32]⟩],
  (.seq (.reg [aT]) (.seq (.reg [aR, aR, aT, aR, aR, aR, aT, aT, aT]) .none)),
  []⟩
def b_spec_l1In : List (Nat × Tree) := [(0, (.ins (.grp [] [.cp 96 (.c (.bool false))] .nil) (.ins (.grp [] [.cp 112 (.k 0)] (.grp [] [.cp 128 (.k 16)] (.grp [] [.bin .geq 144 (.k 112) (.k 128)] (.grp [] [.cp 160 (.k 144)] (.sel 224 160 (.grp [] [.cp 176 (.k 0)] (.grp [] [.cp 192 (.k 32)] (.grp [] [.bin .leq 208 (.k 176) (.k 192)] .nil))) (.k 208) .nil (.c (.bool false)) (.grp [] [.cp 96 (.k 224)] .nil)))))) (.ret [(.bool, [(.k 96)])]))))]
noncomputable def c_spec_l1In : List Lf.Fn := []
noncomputable def f_spec_l1In : Int → Int → Int → Option (Bool) := tyd [tI, tI, tI] [.bool] (fnD (DOf c_spec_l1In) s_spec_l1In a_spec_l1In.L b_spec_l1In)
noncomputable def n_spec_l1In : Lf.Fn := ⟨s_spec_l1In, [tI, tI, tI], [.bool], f_spec_l1In⟩
theorem k_spec_l1In : compFn Try.prog (sigsOf c_spec_l1In) s_spec_l1In a_spec_l1In = some b_spec_l1In := by kernel_rfl
theorem g_spec_l1In : Lf.Good Try.prog n_spec_l1In := good_of (by intro _ h; simp [c_spec_l1In] at h) k_spec_l1In (by kernel_rfl) ⟨Try.f90, by kernel_rfl, by kernel_rfl, by kernel_rfl⟩ [tI, tI, tI] [.bool]
theorem f_spec_l1In_eq (x0 : Int) (x1 : Int) (x2 : Int) : f_spec_l1In x0 x1 x2 =
    (bif (decide (x0 ≥ x1)) then some (decide (x0 ≤ x2)) else some false).bind fun z1 =>
    some z1 :=
  (show f_spec_l1In x0 x1 x2 = (Jl (DOf c_spec_l1In) (irBlk a_spec_l1In.L b_spec_l1In) 0 [⟨tI, x0⟩, ⟨tI, x1⟩, ⟨tI, x2⟩]).bind (readOuts [.bool]) by kernel_rfl).trans ((Jstep2 (DKOf_eq c_spec_l1In)).trans (by kernel_rfl))
/- loop.example/g01989/spec.IsVar -/
def s_spec_IsVar : Sig := ⟨102, [.v tI], [(.bool, [none])]⟩
def a_spec_IsVar : FAnn := ⟨[⟨[(0, ⟨0, [], .va⟩), (15, ⟨0, [], .pl 1 false⟩)], [0]⟩],
  (.seq (.reg [aT]) (.seq (.reg [aR, aT, aT]) .none)),
  []⟩
def b_spec_IsVar : List (Nat × Tree) := [(0, (.ins (.grp [] [.cp 32 (.c (.bool false))] .nil) (.ins (.grp [] [.cp 48 (.k 0)] (.grp [] [.call 0 [(tI, [(.k 48)]), (tI, [(.c (.int .i64 (10)))]), (tI, [(.c (.int .i64 (17)))])] [[64]]] (.grp [] [.cp 32 (.k 64)] .nil))) (.ret [(.bool, [(.k 32)])]))))]
noncomputable def c_spec_IsVar : List Lf.Fn := [n_spec_l1In]
noncomputable def f_spec_IsVar : Int → Option (Bool) := tyd [tI] [.bool] (fnD (DOf c_spec_IsVar) s_spec_IsVar a_spec_IsVar.L b_spec_IsVar)
noncomputable def n_spec_IsVar : Lf.Fn := ⟨s_spec_IsVar, [tI], [.bool], f_spec_IsVar⟩
theorem k_spec_IsVar : compFn Try.prog (sigsOf c_spec_IsVar) s_spec_IsVar a_spec_IsVar = some b_spec_IsVar := by kernel_rfl
theorem g_spec_IsVar : Lf.Good Try.prog n_spec_IsVar := good_of (by simp only [c_spec_IsVar, List.mem_singleton]; rintro _ rfl; exact g_spec_l1In) k_spec_IsVar (by kernel_rfl) ⟨Try.f102, by kernel_rfl, by kernel_rfl, by kernel_rfl⟩ [tI] [.bool]
theorem f_spec_IsVar_eq (x0 : Int) : f_spec_IsVar x0 =
    (f_spec_l1In x0 (10 : Int) (17 : Int)).bind fun z1 =>
    some z1 :=
  (show f_spec_IsVar x0 = (Jl (DOf c_spec_IsVar) (irBlk a_spec_IsVar.L b_spec_IsVar) 0 [⟨tI, x0⟩]).bind (readOuts [.bool]) by kernel_rfl).trans ((Jstep2 (DKOf_eq c_spec_IsVar)).trans (by kernel_rfl))
/- loop.example/g01989/spec.AtomsFor -/
def s_spec_AtomsFor : Sig := ⟨43, [.v tLPIPLIPIPII, .v tPLILPILI, .v tPILI], [(tLI, [some .sc])]⟩
def a_spec_AtomsFor : FAnn := ⟨[⟨[(0, ⟨0, [], .va⟩), (15, ⟨0, [], .pl 1 false⟩), (16, ⟨0, [], .va⟩), (17, ⟨0, [], .va⟩), (31, ⟨0, [], .pl 2 true⟩), (32, ⟨0, [], .va⟩), (33, ⟨0, [], .va⟩), (47, ⟨0, [], .pl 2 true⟩)], [0, 16, 17, 32, 33]⟩,
    ⟨[(64, ⟨0, [], .va⟩), (65, ⟨0, [], .va⟩), (79, ⟨0, [], .bx 2⟩), (80, ⟨0, [], .va⟩), (81, ⟨0, [], .va⟩), (95, ⟨0, [], .bx 2⟩), (112, ⟨0, [], .ro .sc none⟩), (127, ⟨0, [], .pl 1 false⟩), (128, ⟨0, [], .va⟩), (129, ⟨0, [], .va⟩), (130, ⟨0, [], .va⟩), (131, ⟨0, [], .va⟩), (132, ⟨0, [], .va⟩), (143, ⟨0, [], .bx 5⟩), (144, ⟨0, [], .va⟩), (159, ⟨0, [], .pl 1 false⟩)], [64, 65, 80, 81, 112, 128, 129, 130, 131, 132, 144]⟩,
    ⟨[(64, ⟨0, [], .va⟩), (65, ⟨0, [], .va⟩), (79, ⟨0, [], .bx 2⟩), (80, ⟨0, [], .va⟩), (81, ⟨0, [], .va⟩), (95, ⟨0, [], .bx 2⟩), (112, ⟨0, [], .ro .sc none⟩), (127, ⟨0, [], .pl 1 false⟩), (128, ⟨0, [], .va⟩), (129, ⟨0, [], .va⟩), (130, ⟨0, [], .va⟩), (131, ⟨0, [], .va⟩), (132, ⟨0, [], .va⟩), (143, ⟨0, [], .bx 5⟩), (144, ⟨0, [], .va⟩), (159, ⟨0, [], .pl 1 false⟩), (160, ⟨0, [], .va⟩), (175, ⟨0, [], .pl 1 false⟩), (176, ⟨0, [], .va⟩), (191, ⟨0, [], .pl 1 false⟩)], [64, 65, 80, 81, 112, 128, 129, 130, 131, 132, 144, 160, 176]⟩,
    ⟨[(64, ⟨0, [], .va⟩), (65, ⟨0, [], .va⟩), (79, ⟨0, [], .bx 2⟩), (80, ⟨0, [], .va⟩), (81, ⟨0, [], .va⟩), (95, ⟨0, [], .bx 2⟩), (112, ⟨0, [], .ro .sc none⟩), (127, ⟨0, [], .pl 1 false⟩), (128, ⟨0, [], .va⟩), (129, ⟨0, [], .va⟩), (130, ⟨0, [], .va⟩), (131, ⟨0, [], .va⟩), (132, ⟨0, [], .va⟩), (143, ⟨0, [], .bx 5⟩), (144, ⟨0, [], .va⟩), (159, ⟨0, [], .pl 1 false⟩)], [64, 65, 80, 81, 112, 128, 129, 130, 131, 132, 144]⟩],
  (.seq (.reg [aT, aT, aT]) (.seq (.reg [aT, aT]) (.seq (.seq (.reg [aT, aT, aR, aT, aT, aT, aT, aR, aT, aT, aT, aR, aT, aT, aT, aT, aT, aT, aT, aT]) (.cond none (.seq (.reg [aR, aT]) .none) .none)) (.seq (.reg [aR, aT, aT, aT, aT, aT, aT]) (.seq (.seq (.reg [aT]) (.block none (.loop 1 (.seq (.seq (.reg [aR, aT, aT, aT, aT]) (.cond none .none .none)) (.seq (.block none (.seq (.reg [aT, aT, aR, aT, aT, aT, aT, aT, aT, aT]) (.seq (.seq (.reg [aT]) (.block none (.loop 2 (.seq (.seq (.reg [aR, aT, aT, aT, aT, aR, aR, aT]) (.cond none .none .none)) (.seq (.block none (.reg [aT, aT, aR, aT, aT, aT, aT, aR, aT, aT, aT, aT, aT, aT, aR, aT, aT, aR, aT, aT, aT, aT, aT, aR, aT, aT, aT, aT, ⟨.take, 1, []⟩, aR, aT, aT, aR, aT, aT, aT, aT, aT, aR, aT, aT, aT, aT, aT, aT, aR, aT, aT, aT, aT, aT, aT])) (.reg [aR, aT, aT])))))) (.seq (.reg [aR]) (.cond (some 3) (.reg [aR, aR, aT, aT, aT]) .none))))) (.reg [aR, aT, aT])))))) (.seq (.reg [aR, aT]) .none)))))),
  []⟩
def b_spec_AtomsFor : List (Nat × Tree) := [(0, (.ins (.grp [] [.cp 64 (.k 16), .cp 65 (.k 17)] (.grp [] [.cp 80 (.k 32), .cp 81 (.k 33)] (.grp [] [.cp 96 (.c (.nil tI))] .nil))) (.ins (.grp [] [.cp 192 (.c (.nil tI))] (.grp [] [.cp 112 (.k 192)] .nil)) (.ins (.grp [] [.cp 224 (.k 80)] (.grp [] [.cp 240 (.k 0)] (.grp [] [.len false 256 (.k 240)] (.grp [] [.bin .sub 272 (.k 256) (.c (.int .i64 (1)))] (.grp [] [.call 0 [(tI, [(.k 224)]), (tI, [(.c (.int .i64 (0)))]), (tI, [(.k 272)])] [[288]]] (.grp [] [.not 304 (.k 288)] (.grp [] [.cp 320 (.k 304)] (.sel 512 320 .nil (.c (.bool true)) (.grp [] [.cp 352 (.k 81)] (.grp [] [.len false 368 (.k 352)] (.grp [] [.cp 384 (.k 0)] (.grp [] [.cp 416 (.k 80)] (.grp [] [.idx (some tPIPLIPIPII) [432, 433, 434, 435, 436] 0 (.k 384) (.k 416)] (.grp [] [.cp 448 (.k 433)] (.grp [] [.cp 464 (.k 448)] (.grp [] [.len false 480 (.k 464)] (.grp [] [.bin .neq 496 (.k 368) (.k 480)] .nil))))))))) (.k 496) .nil)))))))) (.ite (.k 512) (.ins (.grp [] [.cp 528 (.k 112)] (.grp [] [.cp 96 (.k 528)] .nil)) (.ret [(tLI, [(.k 96)])])) (.ins (.grp [] [.cp 544 (.k 0)] (.grp [] [.cp 576 (.k 80)] (.grp [] [.idx (some tPIPLIPIPII) [592, 593, 594, 595, 596] 0 (.k 544) (.k 576)] (.grp [] [.cp 608 (.k 592), .cp 609 (.k 593), .cp 610 (.k 594), .cp 611 (.k 595), .cp 612 (.k 596)] (.grp [] [.cp 128 (.c (.int .i64 (0))), .cp 129 (.c (.nil tI)), .cp 130 (.c (.int .i64 (0))), .cp 131 (.c (.int .i64 (0))), .cp 132 (.c (.int .i64 (0)))] (.grp [] [.cp 128 (.k 608), .cp 129 (.k 609), .cp 130 (.k 610), .cp 131 (.k 611), .cp 132 (.k 612)] .nil)))))) (.ins (.grp [] [.cp 144 (.c (.int .i64 (0)))] .nil) (.jump 1 [64, 65, 80, 81, 112, 128, 129, 130, 131, 132, 144])))))))),
  (1, (.ins (.grp [] [.cp 624 (.k 144)] (.grp [] [.cp 656 (.k 65)] (.grp [] [.len false 672 (.k 656)] (.grp [] [.bin .lss 688 (.k 624) (.k 672)] .nil)))) (.ite (.k 688) (.ins (.grp [] [.cp 752 (.k 65)] (.grp [] [.cp 768 (.k 144)] (.grp [] [.idx (some tPILI) [784, 785] 0 (.k 752) (.k 768)] (.grp [] [.cp 800 (.k 784)] (.grp [] [.cp 816 (.k 800)] (.grp [] [.cp 848 (.k 128)] (.grp [] [.bin .eql 864 (.k 816) (.k 848)] (.grp [] [.cp 160 (.k 864)] .nil)))))))) (.ins (.grp [] [.cp 176 (.c (.int .i64 (0)))] .nil) (.jump 2 [64, 65, 80, 81, 112, 128, 129, 130, 131, 132, 144, 160, 176]))) (.ins (.grp [] [.cp 1936 (.k 112)] (.grp [] [.cp 96 (.k 112)] .nil)) (.ret [(tLI, [(.k 96)])]))))),
  (2, (.ins (.grp [] [.cp 880 (.k 176)] (.grp [] [.cp 912 (.k 129)] (.grp [] [.len false 928 (.k 912)] (.grp [] [.bin .lss 944 (.k 880) (.k 928)] (.grp [] [.cp 960 (.k 944)] (.sel 992 960 (.grp [] [.cp 976 (.k 160)] .nil) (.k 976) .nil (.c (.bool false)) .nil)))))) (.ite (.k 992) (.ins (.grp [] [.cp 1056 (.k 129)] (.grp [] [.cp 1072 (.k 176)] (.grp [] [.idx (some tI) [1088] 0 (.k 1056) (.k 1072)] (.grp [] [.cp 1104 (.k 1088)] (.grp [] [.cp 1136 (.k 65)] (.grp [] [.cp 1152 (.k 144)] (.grp [] [.idx (some tPILI) [1168, 1169] 0 (.k 1136) (.k 1152)] (.grp [] [.cp 1184 (.k 1169)] (.grp [] [.cp 1200 (.k 1184)] (.grp [] [.len false 1216 (.k 1200)] (.grp [] [.bin .sub 1232 (.k 1216) (.c (.int .i64 (1)))] (.grp [] [.call 0 [(tI, [(.k 1104)]), (tI, [(.c (.int .i64 (0)))]), (tI, [(.k 1232)])] [[1248]]] (.grp [] [.cp 1264 (.k 1248)] (.sel 1840 1264 (.grp [] [.cp 1296 (.k 65)] (.grp [] [.cp 1312 (.k 144)] (.grp [] [.idx (some tPILI) [1328, 1329] 0 (.k 1296) (.k 1312)] (.grp [] [.cp 1344 (.k 1329)] (.grp [] [.cp 1360 (.k 1344)] (.grp [] [.cp 1392 (.k 129)] (.grp [] [.cp 1408 (.k 176)] (.grp [] [.idx (some tI) [1424] 0 (.k 1392) (.k 1408)] (.grp [] [.cp 1440 (.k 1424)] (.grp [] [.idx (some tI) [1456] 0 (.k 1360) (.k 1440)] (.grp [] [.cp 1472 (.k 1456)] (.grp [] [.call 1 [(tI, [(.k 1472)])] [[1488]]] (.grp [] [.cp 1504 (.k 1488)] (.sel 1824 1504 .nil (.c (.bool true)) (.grp [] [.cp 1536 (.k 65)] (.grp [] [.cp 1552 (.k 144)] (.grp [] [.idx (some tPILI) [1568, 1569] 0 (.k 1536) (.k 1552)] (.grp [] [.cp 1584 (.k 1569)] (.grp [] [.cp 1600 (.k 1584)] (.grp [] [.cp 1632 (.k 129)] (.grp [] [.cp 1648 (.k 176)] (.grp [] [.idx (some tI) [1664] 0 (.k 1632) (.k 1648)] (.grp [] [.cp 1680 (.k 1664)] (.grp [] [.idx (some tI) [1696] 0 (.k 1600) (.k 1680)] (.grp [] [.cp 1712 (.k 1696)] (.grp [] [.cp 1744 (.k 81)] (.grp [] [.cp 1760 (.k 176)] (.grp [] [.idx (some tI) [1776] 0 (.k 1744) (.k 1760)] (.grp [] [.cp 1792 (.k 1776)] (.grp [] [.bin .eql 1808 (.k 1712) (.k 1792)] .nil)))))))))))))))) (.k 1808) .nil)))))))))))))) (.k 1824) .nil (.c (.bool false)) (.grp [] [.cp 160 (.k 1840)] .nil))))))))))))))) (.ins (.grp [] [.cp 1008 (.k 176)] (.grp [] [.bin .add 1024 (.k 1008) (.c (.int .i64 (1)))] (.grp [] [.cp 176 (.k 1024)] .nil))) (.jump 2 [64, 65, 80, 81, 112, 128, 129, 130, 131, 132, 144, 160, 176]))) (.ins (.grp [] [.cp 1856 (.k 160)] .nil) (.ite (.k 1856) (.ins (.grp [] [.cp 1872 (.k 112)] (.grp [] [.cp 1888 (.k 144)] (.grp [] [.lst 1904 tI [[(.k 1888)]]] (.grp [] [.app tI 1920 (.k 1872) (.k 1904)] (.grp [] [.cp 112 (.k 1920)] .nil))))) (.jump 3 [64, 65, 80, 81, 112, 128, 129, 130, 131, 132, 144])) (.jump 3 [64, 65, 80, 81, 112, 128, 129, 130, 131, 132, 144])))))),
  (3, (.ins (.grp [] [.cp 704 (.k 144)] (.grp [] [.bin .add 720 (.k 704) (.c (.int .i64 (1)))] (.grp [] [.cp 144 (.k 720)] .nil))) (.jump 1 [64, 65, 80, 81, 112, 128, 129, 130, 131, 132, 144])))]
noncomputable def c_spec_AtomsFor : List Lf.Fn := [n_spec_l1In, n_spec_IsVar]
noncomputable def f_spec_AtomsFor : (List (Int × ((List Int) × (Int × (Int × Int))))) → ((List Int) × (List (Int × (List Int)))) → (Int × (List Int)) → Option ((List Int)) := tyd [tLPIPLIPIPII, tPLILPILI, tPILI] [tLI] (fnD (DOf c_spec_AtomsFor) s_spec_AtomsFor a_spec_AtomsFor.L b_spec_AtomsFor)
noncomputable def n_spec_AtomsFor : Lf.Fn := ⟨s_spec_AtomsFor, [tLPIPLIPIPII, tPLILPILI, tPILI], [tLI], f_spec_AtomsFor⟩
noncomputable def l1_spec_AtomsFor (v64 : (List Int)) (v65 : (List (Int × (List Int)))) (v80 : Int) (v81 : (List Int)) (v112 : (List Int)) (v128 : Int) (v129 : (List Int)) (v130 : Int) (v131 : Int) (v132 : Int) (v144 : Int) : Option ((List Int)) := (Jl (DOf c_spec_AtomsFor) (irBlk a_spec_AtomsFor.L b_spec_AtomsFor) 1 [⟨tLI, v64⟩, ⟨tLPILI, v65⟩, ⟨tI, v80⟩, ⟨tLI, v81⟩, ⟨tLI, v112⟩, ⟨tI, v128⟩, ⟨tLI, v129⟩, ⟨tI, v130⟩, ⟨tI, v131⟩, ⟨tI, v132⟩, ⟨tI, v144⟩]).bind (readOuts [tLI])
noncomputable def l2_spec_AtomsFor (v64 : (List Int)) (v65 : (List (Int × (List Int)))) (v80 : Int) (v81 : (List Int)) (v112 : (List Int)) (v128 : Int) (v129 : (List Int)) (v130 : Int) (v131 : Int) (v132 : Int) (v144 : Int) (v160 : Bool) (v176 : Int) : Option ((List Int)) := (Jl (DOf c_spec_AtomsFor) (irBlk a_spec_AtomsFor.L b_spec_AtomsFor) 2 [⟨tLI, v64⟩, ⟨tLPILI, v65⟩, ⟨tI, v80⟩, ⟨tLI, v81⟩, ⟨tLI, v112⟩, ⟨tI, v128⟩, ⟨tLI, v129⟩, ⟨tI, v130⟩, ⟨tI, v131⟩, ⟨tI, v132⟩, ⟨tI, v144⟩, ⟨.bool, v160⟩, ⟨tI, v176⟩]).bind (readOuts [tLI])
noncomputable def l3_spec_AtomsFor (v64 : (List Int)) (v65 : (List (Int × (List Int)))) (v80 : Int) (v81 : (List Int)) (v112 : (List Int)) (v128 : Int) (v129 : (List Int)) (v130 : Int) (v131 : Int) (v132 : Int) (v144 : Int) : Option ((List Int)) := (Jl (DOf c_spec_AtomsFor) (irBlk a_spec_AtomsFor.L b_spec_AtomsFor) 3 [⟨tLI, v64⟩, ⟨tLPILI, v65⟩, ⟨tI, v80⟩, ⟨tLI, v81⟩, ⟨tLI, v112⟩, ⟨tI, v128⟩, ⟨tLI, v129⟩, ⟨tI, v130⟩, ⟨tI, v131⟩, ⟨tI, v132⟩, ⟨tI, v144⟩]).bind (readOuts [tLI])
theorem k_spec_AtomsFor : compFn Try.prog (sigsOf c_spec_AtomsFor) s_spec_AtomsFor a_spec_AtomsFor = some b_spec_AtomsFor := by kernel_rfl
theorem g_spec_AtomsFor : Lf.Good Try.prog n_spec_AtomsFor := good_of (by simp only [c_spec_AtomsFor, List.mem_cons, List.not_mem_nil, or_false]; rintro _ (rfl | rfl); exact g_spec_l1In; exact g_spec_IsVar) k_spec_AtomsFor (by kernel_rfl) ⟨Try.f43, by kernel_rfl, by kernel_rfl, by kernel_rfl⟩ [tLPIPLIPIPII, tPLILPILI, tPILI] [tLI]
theorem f_spec_AtomsFor_eq (x0 : (List (Int × ((List Int) × (Int × (Int × Int)))))) (x1 : ((List Int) × (List (Int × (List Int))))) (x2 : (Int × (List Int))) : f_spec_AtomsFor x0 x1 x2 =
    (f_spec_l1In x2.1 (0 : Int) (IntKind.wrap .i64 ((x0.length : Int) - (1 : Int)))).bind fun z1 =>
    (bif (!z1) then some true else (at? x0 x2.1).bind fun z3 =>
      some ((x2.2.length : Int) != (z3.2.1.length : Int))).bind fun z2 =>
    bif z2 then
      some ([] : List Int)
    else
      (at? x0 x2.1).bind fun z4 =>
      l1_spec_AtomsFor x1.1 x1.2 x2.1 x2.2 ([] : List Int) z4.1 z4.2.1 z4.2.2.1 z4.2.2.2.1 z4.2.2.2.2 (0 : Int) :=
  (show f_spec_AtomsFor x0 x1 x2 = (Jl (DOf c_spec_AtomsFor) (irBlk a_spec_AtomsFor.L b_spec_AtomsFor) 0 [⟨tLPIPLIPIPII, x0⟩, ⟨tLI, x1.1⟩, ⟨tLPILI, x1.2⟩, ⟨tI, x2.1⟩, ⟨tLI, x2.2⟩]).bind (readOuts [tLI]) by kernel_rfl).trans ((Jstep2 (DKOf_eq c_spec_AtomsFor)).trans (by kernel_rfl))
theorem l1_spec_AtomsFor_eq (v64 : (List Int)) (v65 : (List (Int × (List Int)))) (v80 : Int) (v81 : (List Int)) (v112 : (List Int)) (v128 : Int) (v129 : (List Int)) (v130 : Int) (v131 : Int) (v132 : Int) (v144 : Int) : l1_spec_AtomsFor v64 v65 v80 v81 v112 v128 v129 v130 v131 v132 v144 =
    bif (decide (v144 < (v65.length : Int))) then
      (at? v65 v144).bind fun z1 =>
      l2_spec_AtomsFor v64 v65 v80 v81 v112 v128 v129 v130 v131 v132 v144 (z1.1 == v128) (0 : Int)
    else
      some v112 :=
  (show l1_spec_AtomsFor v64 v65 v80 v81 v112 v128 v129 v130 v131 v132 v144 = (Jl (DOf c_spec_AtomsFor) (irBlk a_spec_AtomsFor.L b_spec_AtomsFor) 1 [⟨tLI, v64⟩, ⟨tLPILI, v65⟩, ⟨tI, v80⟩, ⟨tLI, v81⟩, ⟨tLI, v112⟩, ⟨tI, v128⟩, ⟨tLI, v129⟩, ⟨tI, v130⟩, ⟨tI, v131⟩, ⟨tI, v132⟩, ⟨tI, v144⟩]).bind (readOuts [tLI]) by kernel_rfl).trans ((Jstep2 (DKOf_eq c_spec_AtomsFor)).trans (by kernel_rfl))
theorem l2_spec_AtomsFor_eq (v64 : (List Int)) (v65 : (List (Int × (List Int)))) (v80 : Int) (v81 : (List Int)) (v112 : (List Int)) (v128 : Int) (v129 : (List Int)) (v130 : Int) (v131 : Int) (v132 : Int) (v144 : Int) (v160 : Bool) (v176 : Int) : l2_spec_AtomsFor v64 v65 v80 v81 v112 v128 v129 v130 v131 v132 v144 v160 v176 =
    (bif (decide (v176 < (v129.length : Int))) then some v160 else some false).bind fun z1 =>
    bif z1 then
      (at? v129 v176).bind fun z2 =>
      (at? v65 v144).bind fun z3 =>
      (f_spec_l1In z2 (0 : Int) (IntKind.wrap .i64 ((z3.2.length : Int) - (1 : Int)))).bind fun z4 =>
      (bif z4 then (at? v65 v144).bind fun z6 =>
        (at? v129 v176).bind fun z7 =>
        (at? z6.2 z7).bind fun z8 =>
        (f_spec_IsVar z8).bind fun z9 =>
        (bif z9 then some true else (at? v65 v144).bind fun z11 =>
          (at? v129 v176).bind fun z12 =>
          (at? z11.2 z12).bind fun z13 =>
          (at? v81 v176).bind fun z14 =>
          some (z13 == z14)).bind fun z10 =>
        some z10 else some false).bind fun z5 =>
      l2_spec_AtomsFor v64 v65 v80 v81 v112 v128 v129 v130 v131 v132 v144 z5 (IntKind.wrap .i64 (v176 + (1 : Int)))
    else
      bif v160 then
        bif fits (v112.length + ([v144] : List Int).length) then
        l3_spec_AtomsFor v64 v65 v80 v81 (v112 ++ ([v144] : List Int)) v128 v129 v130 v131 v132 v144
        else none
      else
        l3_spec_AtomsFor v64 v65 v80 v81 v112 v128 v129 v130 v131 v132 v144 :=
  (show l2_spec_AtomsFor v64 v65 v80 v81 v112 v128 v129 v130 v131 v132 v144 v160 v176 = (Jl (DOf c_spec_AtomsFor) (irBlk a_spec_AtomsFor.L b_spec_AtomsFor) 2 [⟨tLI, v64⟩, ⟨tLPILI, v65⟩, ⟨tI, v80⟩, ⟨tLI, v81⟩, ⟨tLI, v112⟩, ⟨tI, v128⟩, ⟨tLI, v129⟩, ⟨tI, v130⟩, ⟨tI, v131⟩, ⟨tI, v132⟩, ⟨tI, v144⟩, ⟨.bool, v160⟩, ⟨tI, v176⟩]).bind (readOuts [tLI]) by kernel_rfl).trans ((Jstep2 (DKOf_eq c_spec_AtomsFor)).trans (by kernel_rfl))
theorem l3_spec_AtomsFor_eq (v64 : (List Int)) (v65 : (List (Int × (List Int)))) (v80 : Int) (v81 : (List Int)) (v112 : (List Int)) (v128 : Int) (v129 : (List Int)) (v130 : Int) (v131 : Int) (v132 : Int) (v144 : Int) : l3_spec_AtomsFor v64 v65 v80 v81 v112 v128 v129 v130 v131 v132 v144 =
    l1_spec_AtomsFor v64 v65 v80 v81 v112 v128 v129 v130 v131 v132 (IntKind.wrap .i64 (v144 + (1 : Int))) :=
  (show l3_spec_AtomsFor v64 v65 v80 v81 v112 v128 v129 v130 v131 v132 v144 = (Jl (DOf c_spec_AtomsFor) (irBlk a_spec_AtomsFor.L b_spec_AtomsFor) 3 [⟨tLI, v64⟩, ⟨tLPILI, v65⟩, ⟨tI, v80⟩, ⟨tLI, v81⟩, ⟨tLI, v112⟩, ⟨tI, v128⟩, ⟨tLI, v129⟩, ⟨tI, v130⟩, ⟨tI, v131⟩, ⟨tI, v132⟩, ⟨tI, v144⟩]).bind (readOuts [tLI]) by kernel_rfl).trans ((Jstep2 (DKOf_eq c_spec_AtomsFor)).trans (by kernel_rfl))
/- loop.example/g01989/impl.within -/
def s_impl_within : Sig := ⟨93, [.v tI, .v tI, .v tI], [(.bool, [none])]⟩
def a_impl_within : FAnn := ⟨[⟨[(0, ⟨0, [], .va⟩), (15, ⟨0, [], .pl 1 false⟩), (16, ⟨0, [], .va⟩), (31, ⟨0, [], .pl 1 false⟩), (32, ⟨0, [], .va⟩), (47, ⟨0, [], .pl 1 false⟩)], [0, 16, 32]⟩],
  (.seq (.reg [aT]) (.seq (.reg [aR, aR, aT, aR, aR, aR, aT, aT, aT]) .none)),
  []⟩
def b_impl_within : List (Nat × Tree) := [(0, (.ins (.grp [] [.cp 96 (.c (.bool false))] .nil) (.ins (.grp [] [.cp 112 (.k 0)] (.grp [] [.cp 128 (.k 16)] (.grp [] [.bin .geq 144 (.k 112) (.k 128)] (.grp [] [.cp 160 (.k 144)] (.sel 224 160 (.grp [] [.cp 176 (.k 0)] (.grp [] [.cp 192 (.k 32)] (.grp [] [.bin .leq 208 (.k 176) (.k 192)] .nil))) (.k 208) .nil (.c (.bool false)) (.grp [] [.cp 96 (.k 224)] .nil)))))) (.ret [(.bool, [(.k 96)])]))))]
noncomputable def c_impl_within : List Lf.Fn := []
noncomputable def f_impl_within : Int → Int → Int → Option (Bool) := tyd [tI, tI, tI] [.bool] (fnD (DOf c_impl_within) s_impl_within a_impl_within.L b_impl_within)
noncomputable def n_impl_within : Lf.Fn := ⟨s_impl_within, [tI, tI, tI], [.bool], f_impl_within⟩
theorem k_impl_within : compFn Try.prog (sigsOf c_impl_within) s_impl_within a_impl_within = some b_impl_within := by kernel_rfl
theorem g_impl_within : Lf.Good Try.prog n_impl_within := good_of (by intro _ h; simp [c_impl_within] at h) k_impl_within (by kernel_rfl) ⟨Try.f93, by kernel_rfl, by kernel_rfl, by kernel_rfl⟩ [tI, tI, tI] [.bool]
theorem f_impl_within_eq (x0 : Int) (x1 : Int) (x2 : Int) : f_impl_within x0 x1 x2 =
    (bif (decide (x0 ≥ x1)) then some (decide (x0 ≤ x2)) else some false).bind fun z1 =>
    some z1 :=
  (show f_impl_within x0 x1 x2 = (Jl (DOf c_impl_within) (irBlk a_impl_within.L b_impl_within) 0 [⟨tI, x0⟩, ⟨tI, x1⟩, ⟨tI, x2⟩]).bind (readOuts [.bool]) by kernel_rfl).trans ((Jstep2 (DKOf_eq c_impl_within)).trans (by kernel_rfl))
/- loop.example/g01989/impl.IsVar -/
def s_impl_IsVar : Sig := ⟨155, [.v tI], [(.bool, [none])]⟩
def a_impl_IsVar : FAnn := ⟨[⟨[(0, ⟨0, [], .va⟩), (15, ⟨0, [], .pl 1 false⟩)], [0]⟩],
  (.seq (.reg [aT]) (.seq (.reg [aR, aT, aT]) .none)),
  []⟩
def b_impl_IsVar : List (Nat × Tree) := [(0, (.ins (.grp [] [.cp 32 (.c (.bool false))] .nil) (.ins (.grp [] [.cp 48 (.k 0)] (.grp [] [.call 0 [(tI, [(.k 48)]), (tI, [(.c (.int .i64 (10)))]), (tI, [(.c (.int .i64 (17)))])] [[64]]] (.grp [] [.cp 32 (.k 64)] .nil))) (.ret [(.bool, [(.k 32)])]))))]
noncomputable def c_impl_IsVar : List Lf.Fn := [n_impl_within]
noncomputable def f_impl_IsVar : Int → Option (Bool) := tyd [tI] [.bool] (fnD (DOf c_impl_IsVar) s_impl_IsVar a_impl_IsVar.L b_impl_IsVar)
noncomputable def n_impl_IsVar : Lf.Fn := ⟨s_impl_IsVar, [tI], [.bool], f_impl_IsVar⟩
theorem k_impl_IsVar : compFn Try.prog (sigsOf c_impl_IsVar) s_impl_IsVar a_impl_IsVar = some b_impl_IsVar := by kernel_rfl
theorem g_impl_IsVar : Lf.Good Try.prog n_impl_IsVar := good_of (by simp only [c_impl_IsVar, List.mem_singleton]; rintro _ rfl; exact g_impl_within) k_impl_IsVar (by kernel_rfl) ⟨Try.f155, by kernel_rfl, by kernel_rfl, by kernel_rfl⟩ [tI] [.bool]
theorem f_impl_IsVar_eq (x0 : Int) : f_impl_IsVar x0 =
    (f_impl_within x0 (10 : Int) (17 : Int)).bind fun z1 =>
    some z1 :=
  (show f_impl_IsVar x0 = (Jl (DOf c_impl_IsVar) (irBlk a_impl_IsVar.L b_impl_IsVar) 0 [⟨tI, x0⟩]).bind (readOuts [.bool]) by kernel_rfl).trans ((Jstep2 (DKOf_eq c_impl_IsVar)).trans (by kernel_rfl))
/- loop.example/g01989/impl.isFor -/
def s_impl_isFor : Sig := ⟨103, [.v tPIPLIPIPII, .v tPILI, .v tLI], [(.bool, [none])]⟩
def a_impl_isFor : FAnn := ⟨[⟨[(0, ⟨0, [], .va⟩), (1, ⟨0, [], .va⟩), (2, ⟨0, [], .va⟩), (3, ⟨0, [], .va⟩), (4, ⟨0, [], .va⟩), (15, ⟨0, [], .pl 5 true⟩), (16, ⟨0, [], .va⟩), (17, ⟨0, [], .va⟩), (31, ⟨0, [], .pl 2 true⟩), (32, ⟨0, [], .va⟩), (47, ⟨0, [], .pl 1 false⟩)], [0, 1, 2, 3, 4, 16, 17, 32]⟩,
    ⟨[(32, ⟨0, [], .va⟩), (47, ⟨0, [], .pl 1 false⟩), (48, ⟨0, [], .va⟩), (49, ⟨0, [], .va⟩), (50, ⟨0, [], .va⟩), (51, ⟨0, [], .va⟩), (52, ⟨0, [], .va⟩), (63, ⟨0, [], .bx 5⟩), (64, ⟨0, [], .va⟩), (65, ⟨0, [], .va⟩), (79, ⟨0, [], .bx 2⟩), (160, ⟨0, [], .va⟩), (175, ⟨0, [], .pl 1 false⟩), (176, ⟨0, [], .va⟩), (191, ⟨0, [], .pl 1 false⟩), (192, ⟨0, [], .va⟩), (207, ⟨0, [], .pl 1 false⟩)], [32, 48, 49, 50, 51, 52, 64, 65, 160, 176, 192]⟩],
  (.seq (.reg [aT, aT, aT]) (.seq (.seq (.reg [aT, aT, aT, aR]) (.block none (.loop 1 (.seq (.reg [aT]) (.seq (.cond none .none .none) (.seq (.block none (.seq (.reg [aR, aT, aT, aT, aT]) (.seq (.reg [aR, aT, aT, aT, aT, aT, aT, aR, aT, aT, aR, aT, aT, ⟨.take, 1, []⟩, aT, aR, aT, aT, aR, aT, aT, aR, aR, aT, aT, aT, aT, aT]) (.cond none (.seq (.reg [aT]) .none) .none)))) (.reg [aT, aR]))))))) (.seq (.reg [aT, aT, aT, aT, aT, aT]) .none))),
  []⟩
def b_impl_isFor : List (Nat × Tree) := [(0, (.ins (.grp [] [.cp 48 (.k 0), .cp 49 (.k 1), .cp 50 (.k 2), .cp 51 (.k 3), .cp 52 (.k 4)] (.grp [] [.cp 64 (.k 16), .cp 65 (.k 17)] (.grp [] [.cp 96 (.c (.bool false))] .nil))) (.ins (.grp [] [.cp 160 (.k 49)] (.grp [] [.len false 176 (.k 160)] (.grp [] [.cp 192 (.c (.int .i64 (0)))] .nil))) (.jump 1 [32, 48, 49, 50, 51, 52, 64, 65, 160, 176, 192])))),
  (1, (.ins (.grp [] [.bin .lss 208 (.k 192) (.k 176)] .nil) (.ite (.k 208) (.ins (.grp [] [.cp 224 (.k 192)] (.grp [] [.idx (some tI) [240] 0 (.k 160) (.k 192)] (.grp [] [.cp 256 (.k 240)] (.grp [] [.cp 112 (.k 224)] (.grp [] [.cp 128 (.k 256)] .nil))))) (.ins (.grp [] [.cp 272 (.k 128)] (.grp [] [.cp 304 (.k 65)] (.grp [] [.len false 320 (.k 304)] (.grp [] [.bin .sub 336 (.k 320) (.c (.int .i64 (1)))] (.grp [] [.call 0 [(tI, [(.k 272)]), (tI, [(.c (.int .i64 (0)))]), (tI, [(.k 336)])] [[352]]] (.grp [] [.not 368 (.k 352)] (.grp [] [.cp 384 (.k 368)] (.sel 704 384 .nil (.c (.bool true)) (.grp [] [.cp 416 (.k 65)] (.grp [] [.cp 432 (.k 128)] (.grp [] [.idx (some tI) [448] 0 (.k 416) (.k 432)] (.grp [] [.cp 464 (.k 448)] (.grp [] [.call 1 [(tI, [(.k 464)])] [[480]]] (.grp [] [.not 496 (.k 480)] (.grp [] [.cp 512 (.k 496)] (.sel 688 512 (.grp [] [.cp 544 (.k 65)] (.grp [] [.cp 560 (.k 128)] (.grp [] [.idx (some tI) [576] 0 (.k 544) (.k 560)] (.grp [] [.cp 592 (.k 576)] (.grp [] [.cp 608 (.k 32)] (.grp [] [.cp 624 (.k 112)] (.grp [] [.idx (some tI) [640] 0 (.k 608) (.k 624)] (.grp [] [.cp 656 (.k 640)] (.grp [] [.bin .neq 672 (.k 592) (.k 656)] .nil))))))))) (.k 672) .nil (.c (.bool false)) .nil)))))))) (.k 688) .nil)))))))) (.ite (.k 704) (.ins (.grp [] [.cp 96 (.c (.bool false))] .nil) (.ret [(.bool, [(.k 96)])])) (.ins (.grp [] [.bin .add 720 (.k 192) (.c (.int .i64 (1)))] (.grp [] [.cp 192 (.k 720)] .nil)) (.jump 1 [32, 48, 49, 50, 51, 52, 64, 65, 160, 176, 192]))))) (.ins (.grp [] [.cp 752 (.k 48)] (.grp [] [.cp 784 (.k 64)] (.grp [] [.bin .eql 800 (.k 752) (.k 784)] (.grp [] [.cp 96 (.k 800)] .nil)))) (.ret [(.bool, [(.k 96)])])))))]
noncomputable def c_impl_isFor : List Lf.Fn := [n_impl_within, n_impl_IsVar]
noncomputable def f_impl_isFor : (Int × ((List Int) × (Int × (Int × Int)))) → (Int × (List Int)) → (List Int) → Option (Bool) := tyd [tPIPLIPIPII, tPILI, tLI] [.bool] (fnD (DOf c_impl_isFor) s_impl_isFor a_impl_isFor.L b_impl_isFor)
noncomputable def n_impl_isFor : Lf.Fn := ⟨s_impl_isFor, [tPIPLIPIPII, tPILI, tLI], [.bool], f_impl_isFor⟩
noncomputable def l1_impl_isFor (v32 : (List Int)) (v48 : Int) (v49 : (List Int)) (v50 : Int) (v51 : Int) (v52 : Int) (v64 : Int) (v65 : (List Int)) (v160 : (List Int)) (v176 : Int) (v192 : Int) : Option (Bool) := (Jl (DOf c_impl_isFor) (irBlk a_impl_isFor.L b_impl_isFor) 1 [⟨tLI, v32⟩, ⟨tI, v48⟩, ⟨tLI, v49⟩, ⟨tI, v50⟩, ⟨tI, v51⟩, ⟨tI, v52⟩, ⟨tI, v64⟩, ⟨tLI, v65⟩, ⟨tLI, v160⟩, ⟨tI, v176⟩, ⟨tI, v192⟩]).bind (readOuts [.bool])
theorem k_impl_isFor : compFn Try.prog (sigsOf c_impl_isFor) s_impl_isFor a_impl_isFor = some b_impl_isFor := by kernel_rfl
theorem g_impl_isFor : Lf.Good Try.prog n_impl_isFor := good_of (by simp only [c_impl_isFor, List.mem_cons, List.not_mem_nil, or_false]; rintro _ (rfl | rfl); exact g_impl_within; exact g_impl_IsVar) k_impl_isFor (by kernel_rfl) ⟨Try.f103, by kernel_rfl, by kernel_rfl, by kernel_rfl⟩ [tPIPLIPIPII, tPILI, tLI] [.bool]
theorem f_impl_isFor_eq (x0 : (Int × ((List Int) × (Int × (Int × Int))))) (x1 : (Int × (List Int))) (x2 : (List Int)) : f_impl_isFor x0 x1 x2 =
    l1_impl_isFor x2 x0.1 x0.2.1 x0.2.2.1 x0.2.2.2.1 x0.2.2.2.2 x1.1 x1.2 x0.2.1 (x0.2.1.length : Int) (0 : Int) :=
  (show f_impl_isFor x0 x1 x2 = (Jl (DOf c_impl_isFor) (irBlk a_impl_isFor.L b_impl_isFor) 0 [⟨tI, x0.1⟩, ⟨tLI, x0.2.1⟩, ⟨tI, x0.2.2.1⟩, ⟨tI, x0.2.2.2.1⟩, ⟨tI, x0.2.2.2.2⟩, ⟨tI, x1.1⟩, ⟨tLI, x1.2⟩, ⟨tLI, x2⟩]).bind (readOuts [.bool]) by kernel_rfl).trans ((Jstep2 (DKOf_eq c_impl_isFor)).trans (by kernel_rfl))
theorem l1_impl_isFor_eq (v32 : (List Int)) (v48 : Int) (v49 : (List Int)) (v50 : Int) (v51 : Int) (v52 : Int) (v64 : Int) (v65 : (List Int)) (v160 : (List Int)) (v176 : Int) (v192 : Int) : l1_impl_isFor v32 v48 v49 v50 v51 v52 v64 v65 v160 v176 v192 =
    bif (decide (v192 < v176)) then
      (at? v160 v192).bind fun z1 =>
      (f_impl_within z1 (0 : Int) (IntKind.wrap .i64 ((v65.length : Int) - (1 : Int)))).bind fun z2 =>
      (bif (!z2) then some true else (at? v65 z1).bind fun z4 =>
        (f_impl_IsVar z4).bind fun z5 =>
        (bif (!z5) then (at? v65 z1).bind fun z7 =>
          (at? v32 v192).bind fun z8 =>
          some (z7 != z8) else some false).bind fun z6 =>
        some z6).bind fun z3 =>
      bif z3 then
        some false
      else
        l1_impl_isFor v32 v48 v49 v50 v51 v52 v64 v65 v160 v176 (IntKind.wrap .i64 (v192 + (1 : Int)))
    else
      some (v48 == v64) :=
  (show l1_impl_isFor v32 v48 v49 v50 v51 v52 v64 v65 v160 v176 v192 = (Jl (DOf c_impl_isFor) (irBlk a_impl_isFor.L b_impl_isFor) 1 [⟨tLI, v32⟩, ⟨tI, v48⟩, ⟨tLI, v49⟩, ⟨tI, v50⟩, ⟨tI, v51⟩, ⟨tI, v52⟩, ⟨tI, v64⟩, ⟨tLI, v65⟩, ⟨tLI, v160⟩, ⟨tI, v176⟩, ⟨tI, v192⟩]).bind (readOuts [.bool]) by kernel_rfl).trans ((Jstep2 (DKOf_eq c_impl_isFor)).trans (by kernel_rfl))
/- loop.example/g01989/impl.AtomsFor -/
def s_impl_AtomsFor : Sig := ⟨44, [.v tLPIPLIPIPII, .v tPLILPILI, .v tPILI], [(tLI, [some .sc])]⟩
def a_impl_AtomsFor : FAnn := ⟨[⟨[(0, ⟨0, [], .va⟩), (15, ⟨0, [], .pl 1 false⟩), (16, ⟨0, [], .va⟩), (17, ⟨0, [], .va⟩), (31, ⟨0, [], .pl 2 true⟩), (32, ⟨0, [], .va⟩), (33, ⟨0, [], .va⟩), (47, ⟨0, [], .pl 2 true⟩)], [0, 16, 17, 32, 33]⟩,
    ⟨[(0, ⟨0, [], .va⟩), (15, ⟨0, [], .pl 1 false⟩), (80, ⟨0, [], .va⟩), (81, ⟨0, [], .va⟩), (95, ⟨0, [], .bx 2⟩), (112, ⟨0, [], .ro .sc none⟩), (127, ⟨0, [], .pl 1 false⟩), (528, ⟨0, [], .va⟩), (543, ⟨0, [], .pl 1 false⟩), (544, ⟨0, [], .va⟩), (559, ⟨0, [], .pl 1 false⟩), (560, ⟨0, [], .va⟩), (575, ⟨0, [], .pl 1 false⟩)], [0, 80, 81, 112, 528, 544, 560]⟩,
    ⟨[(0, ⟨0, [], .va⟩), (15, ⟨0, [], .pl 1 false⟩), (80, ⟨0, [], .va⟩), (81, ⟨0, [], .va⟩), (95, ⟨0, [], .bx 2⟩), (112, ⟨0, [], .ro .sc none⟩), (127, ⟨0, [], .pl 1 false⟩), (528, ⟨0, [], .va⟩), (543, ⟨0, [], .pl 1 false⟩), (544, ⟨0, [], .va⟩), (559, ⟨0, [], .pl 1 false⟩), (560, ⟨0, [], .va⟩), (575, ⟨0, [], .pl 1 false⟩)], [0, 80, 81, 112, 528, 544, 560]⟩],
  (.seq (.reg [aT, aT, aT]) (.seq (.reg [aT, aT]) (.seq (.seq (.reg [aT, aT, aR, aT, aT, aT, aT, aR, aT, aT, aT, aR, aT, aT, aT, aT, aT, aT, aT, aT]) (.cond none (.seq (.reg [aR, aT]) .none) .none)) (.seq (.seq (.reg [aT, aT, aT, aR]) (.block none (.loop 1 (.seq (.reg [aT]) (.seq (.cond none .none .none) (.seq (.block none (.seq (.reg [aR, aT, aT, aT, aT, aT]) (.seq (.reg [aR, aT, aT, aT, aT, aT, aT, aT, ⟨.take, 1, []⟩]) (.cond (some 2) (.reg [aR, aR, aT, aT, aT]) .none)))) (.reg [aT, aR]))))))) (.seq (.reg [aR, aT]) .none))))),
  []⟩
def b_impl_AtomsFor : List (Nat × Tree) := [(0, (.ins (.grp [] [.cp 64 (.k 16), .cp 65 (.k 17)] (.grp [] [.cp 80 (.k 32), .cp 81 (.k 33)] (.grp [] [.cp 96 (.c (.nil tI))] .nil))) (.ins (.grp [] [.cp 160 (.c (.nil tI))] (.grp [] [.cp 112 (.k 160)] .nil)) (.ins (.grp [] [.cp 192 (.k 80)] (.grp [] [.cp 208 (.k 0)] (.grp [] [.len false 224 (.k 208)] (.grp [] [.bin .sub 240 (.k 224) (.c (.int .i64 (1)))] (.grp [] [.call 0 [(tI, [(.k 192)]), (tI, [(.c (.int .i64 (0)))]), (tI, [(.k 240)])] [[256]]] (.grp [] [.not 272 (.k 256)] (.grp [] [.cp 288 (.k 272)] (.sel 480 288 .nil (.c (.bool true)) (.grp [] [.cp 320 (.k 81)] (.grp [] [.len false 336 (.k 320)] (.grp [] [.cp 352 (.k 0)] (.grp [] [.cp 384 (.k 80)] (.grp [] [.idx (some tPIPLIPIPII) [400, 401, 402, 403, 404] 0 (.k 352) (.k 384)] (.grp [] [.cp 416 (.k 401)] (.grp [] [.cp 432 (.k 416)] (.grp [] [.len false 448 (.k 432)] (.grp [] [.bin .neq 464 (.k 336) (.k 448)] .nil))))))))) (.k 464) .nil)))))))) (.ite (.k 480) (.ins (.grp [] [.cp 496 (.k 112)] (.grp [] [.cp 96 (.k 496)] .nil)) (.ret [(tLI, [(.k 96)])])) (.ins (.grp [] [.cp 528 (.k 65)] (.grp [] [.len false 544 (.k 528)] (.grp [] [.cp 560 (.c (.int .i64 (0)))] .nil))) (.jump 1 [0, 80, 81, 112, 528, 544, 560]))))))),
  (1, (.ins (.grp [] [.bin .lss 576 (.k 560) (.k 544)] .nil) (.ite (.k 576) (.ins (.grp [] [.cp 592 (.k 560)] (.grp [] [.idx (some tPILI) [608, 609] 0 (.k 528) (.k 560)] (.grp [] [.cp 624 (.k 608), .cp 625 (.k 609)] (.grp [] [.cp 144 (.c (.int .i64 (0))), .cp 145 (.c (.nil tI))] (.grp [] [.cp 128 (.k 592)] (.grp [] [.cp 144 (.k 624), .cp 145 (.k 625)] .nil)))))) (.ins (.grp [] [.cp 640 (.k 0)] (.grp [] [.cp 672 (.k 80)] (.grp [] [.idx (some tPIPLIPIPII) [688, 689, 690, 691, 692] 0 (.k 640) (.k 672)] (.grp [] [.cp 704 (.k 688), .cp 705 (.k 689), .cp 706 (.k 690), .cp 707 (.k 691), .cp 708 (.k 692)] (.grp [] [.cp 720 (.k 144), .cp 721 (.k 145)] (.grp [] [.cp 752 (.k 81)] (.grp [] [.call 1 [(tPIPLIPIPII, [(.k 704), (.k 705), (.k 706), (.k 707), (.k 708)]), (tPILI, [(.k 720), (.k 721)]), (tLI, [(.k 752)])] [[768]]] .nil))))))) (.ite (.k 768) (.ins (.grp [] [.cp 784 (.k 112)] (.grp [] [.cp 800 (.k 128)] (.grp [] [.lst 816 tI [[(.k 800)]]] (.grp [] [.app tI 832 (.k 784) (.k 816)] (.grp [] [.cp 112 (.k 832)] .nil))))) (.jump 2 [0, 80, 81, 112, 528, 544, 560])) (.jump 2 [0, 80, 81, 112, 528, 544, 560])))) (.ins (.grp [] [.cp 864 (.k 112)] (.grp [] [.cp 96 (.k 112)] .nil)) (.ret [(tLI, [(.k 96)])]))))),
  (2, (.ins (.grp [] [.bin .add 848 (.k 560) (.c (.int .i64 (1)))] (.grp [] [.cp 560 (.k 848)] .nil)) (.jump 1 [0, 80, 81, 112, 528, 544, 560])))]
noncomputable def c_impl_AtomsFor : List Lf.Fn := [n_impl_within, n_impl_isFor]
noncomputable def f_impl_AtomsFor : (List (Int × ((List Int) × (Int × (Int × Int))))) → ((List Int) × (List (Int × (List Int)))) → (Int × (List Int)) → Option ((List Int)) := tyd [tLPIPLIPIPII, tPLILPILI, tPILI] [tLI] (fnD (DOf c_impl_AtomsFor) s_impl_AtomsFor a_impl_AtomsFor.L b_impl_AtomsFor)
noncomputable def n_impl_AtomsFor : Lf.Fn := ⟨s_impl_AtomsFor, [tLPIPLIPIPII, tPLILPILI, tPILI], [tLI], f_impl_AtomsFor⟩
noncomputable def l1_impl_AtomsFor (v0 : (List (Int × ((List Int) × (Int × (Int × Int)))))) (v80 : Int) (v81 : (List Int)) (v112 : (List Int)) (v528 : (List (Int × (List Int)))) (v544 : Int) (v560 : Int) : Option ((List Int)) := (Jl (DOf c_impl_AtomsFor) (irBlk a_impl_AtomsFor.L b_impl_AtomsFor) 1 [⟨tLPIPLIPIPII, v0⟩, ⟨tI, v80⟩, ⟨tLI, v81⟩, ⟨tLI, v112⟩, ⟨tLPILI, v528⟩, ⟨tI, v544⟩, ⟨tI, v560⟩]).bind (readOuts [tLI])
noncomputable def l2_impl_AtomsFor (v0 : (List (Int × ((List Int) × (Int × (Int × Int)))))) (v80 : Int) (v81 : (List Int)) (v112 : (List Int)) (v528 : (List (Int × (List Int)))) (v544 : Int) (v560 : Int) : Option ((List Int)) := (Jl (DOf c_impl_AtomsFor) (irBlk a_impl_AtomsFor.L b_impl_AtomsFor) 2 [⟨tLPIPLIPIPII, v0⟩, ⟨tI, v80⟩, ⟨tLI, v81⟩, ⟨tLI, v112⟩, ⟨tLPILI, v528⟩, ⟨tI, v544⟩, ⟨tI, v560⟩]).bind (readOuts [tLI])
theorem k_impl_AtomsFor : compFn Try.prog (sigsOf c_impl_AtomsFor) s_impl_AtomsFor a_impl_AtomsFor = some b_impl_AtomsFor := by kernel_rfl
theorem g_impl_AtomsFor : Lf.Good Try.prog n_impl_AtomsFor := good_of (by simp only [c_impl_AtomsFor, List.mem_cons, List.not_mem_nil, or_false]; rintro _ (rfl | rfl); exact g_impl_within; exact g_impl_isFor) k_impl_AtomsFor (by kernel_rfl) ⟨Try.f44, by kernel_rfl, by kernel_rfl, by kernel_rfl⟩ [tLPIPLIPIPII, tPLILPILI, tPILI] [tLI]
theorem f_impl_AtomsFor_eq (x0 : (List (Int × ((List Int) × (Int × (Int × Int)))))) (x1 : ((List Int) × (List (Int × (List Int))))) (x2 : (Int × (List Int))) : f_impl_AtomsFor x0 x1 x2 =
    (f_impl_within x2.1 (0 : Int) (IntKind.wrap .i64 ((x0.length : Int) - (1 : Int)))).bind fun z1 =>
    (bif (!z1) then some true else (at? x0 x2.1).bind fun z3 =>
      some ((x2.2.length : Int) != (z3.2.1.length : Int))).bind fun z2 =>
    bif z2 then
      some ([] : List Int)
    else
      l1_impl_AtomsFor x0 x2.1 x2.2 ([] : List Int) x1.2 (x1.2.length : Int) (0 : Int) :=
  (show f_impl_AtomsFor x0 x1 x2 = (Jl (DOf c_impl_AtomsFor) (irBlk a_impl_AtomsFor.L b_impl_AtomsFor) 0 [⟨tLPIPLIPIPII, x0⟩, ⟨tLI, x1.1⟩, ⟨tLPILI, x1.2⟩, ⟨tI, x2.1⟩, ⟨tLI, x2.2⟩]).bind (readOuts [tLI]) by kernel_rfl).trans ((Jstep2 (DKOf_eq c_impl_AtomsFor)).trans (by kernel_rfl))
theorem l1_impl_AtomsFor_eq (v0 : (List (Int × ((List Int) × (Int × (Int × Int)))))) (v80 : Int) (v81 : (List Int)) (v112 : (List Int)) (v528 : (List (Int × (List Int)))) (v544 : Int) (v560 : Int) : l1_impl_AtomsFor v0 v80 v81 v112 v528 v544 v560 =
    bif (decide (v560 < v544)) then
      (at? v528 v560).bind fun z1 =>
      (at? v0 v80).bind fun z2 =>
      (f_impl_isFor z2 z1 v81).bind fun z3 =>
      bif z3 then
        bif fits (v112.length + ([v560] : List Int).length) then
        l2_impl_AtomsFor v0 v80 v81 (v112 ++ ([v560] : List Int)) v528 v544 v560
        else none
      else
        l2_impl_AtomsFor v0 v80 v81 v112 v528 v544 v560
    else
      some v112 :=
  (show l1_impl_AtomsFor v0 v80 v81 v112 v528 v544 v560 = (Jl (DOf c_impl_AtomsFor) (irBlk a_impl_AtomsFor.L b_impl_AtomsFor) 1 [⟨tLPIPLIPIPII, v0⟩, ⟨tI, v80⟩, ⟨tLI, v81⟩, ⟨tLI, v112⟩, ⟨tLPILI, v528⟩, ⟨tI, v544⟩, ⟨tI, v560⟩]).bind (readOuts [tLI]) by kernel_rfl).trans ((Jstep2 (DKOf_eq c_impl_AtomsFor)).trans (by kernel_rfl))
theorem l2_impl_AtomsFor_eq (v0 : (List (Int × ((List Int) × (Int × (Int × Int)))))) (v80 : Int) (v81 : (List Int)) (v112 : (List Int)) (v528 : (List (Int × (List Int)))) (v544 : Int) (v560 : Int) : l2_impl_AtomsFor v0 v80 v81 v112 v528 v544 v560 =
    l1_impl_AtomsFor v0 v80 v81 v112 v528 v544 (IntKind.wrap .i64 (v560 + (1 : Int))) :=
  (show l2_impl_AtomsFor v0 v80 v81 v112 v528 v544 v560 = (Jl (DOf c_impl_AtomsFor) (irBlk a_impl_AtomsFor.L b_impl_AtomsFor) 2 [⟨tLPIPLIPIPII, v0⟩, ⟨tI, v80⟩, ⟨tLI, v81⟩, ⟨tLI, v112⟩, ⟨tLPILI, v528⟩, ⟨tI, v544⟩, ⟨tI, v560⟩]).bind (readOuts [tLI]) by kernel_rfl).trans ((Jstep2 (DKOf_eq c_impl_AtomsFor)).trans (by kernel_rfl))
/- loop.example/g01989/laws.eqIntS -/
def s_laws_eqIntS : Sig := ⟨45, [.v tLI, .v tLI], [(.bool, [none])]⟩
def a_laws_eqIntS : FAnn := ⟨[⟨[(0, ⟨0, [], .va⟩), (15, ⟨0, [], .pl 1 false⟩), (16, ⟨0, [], .va⟩), (31, ⟨0, [], .pl 1 false⟩)], [0, 16]⟩,
    ⟨[(0, ⟨0, [], .va⟩), (15, ⟨0, [], .pl 1 false⟩), (16, ⟨0, [], .va⟩), (31, ⟨0, [], .pl 1 false⟩), (80, ⟨0, [], .va⟩), (95, ⟨0, [], .pl 1 false⟩)], [0, 16, 80]⟩],
  (.seq (.reg [aT]) (.seq (.seq (.reg [aR, aT, aR, aT, aT]) (.cond none (.seq (.reg [aT]) .none) .none)) (.seq (.seq (.reg [aT]) (.block none (.loop 1 (.seq (.seq (.reg [aR, aR, aT, aT]) (.cond none .none .none)) (.seq (.block none (.seq (.reg [aR, aR, aT, aT, aR, aR, aT, aT, aT]) (.cond none (.seq (.reg [aT]) .none) .none))) (.reg [aR, aT, aT])))))) (.seq (.reg [aT]) .none)))),
  []⟩
def b_laws_eqIntS : List (Nat × Tree) := [(0, (.ins (.grp [] [.cp 64 (.c (.bool false))] .nil) (.ins (.grp [] [.cp 96 (.k 0)] (.grp [] [.len false 112 (.k 96)] (.grp [] [.cp 128 (.k 16)] (.grp [] [.len false 144 (.k 128)] (.grp [] [.bin .neq 160 (.k 112) (.k 144)] .nil))))) (.ite (.k 160) (.ins (.grp [] [.cp 64 (.c (.bool false))] .nil) (.ret [(.bool, [(.k 64)])])) (.ins (.grp [] [.cp 80 (.c (.int .i64 (0)))] .nil) (.jump 1 [0, 16, 80])))))),
  (1, (.ins (.grp [] [.cp 176 (.k 80)] (.grp [] [.cp 192 (.k 0)] (.grp [] [.len false 208 (.k 192)] (.grp [] [.bin .lss 224 (.k 176) (.k 208)] .nil)))) (.ite (.k 224) (.ins (.grp [] [.cp 272 (.k 0)] (.grp [] [.cp 288 (.k 80)] (.grp [] [.idx (some tI) [304] 0 (.k 272) (.k 288)] (.grp [] [.cp 320 (.k 304)] (.grp [] [.cp 336 (.k 16)] (.grp [] [.cp 352 (.k 80)] (.grp [] [.idx (some tI) [368] 0 (.k 336) (.k 352)] (.grp [] [.cp 384 (.k 368)] (.grp [] [.bin .neq 400 (.k 320) (.k 384)] .nil))))))))) (.ite (.k 400) (.ins (.grp [] [.cp 64 (.c (.bool false))] .nil) (.ret [(.bool, [(.k 64)])])) (.ins (.grp [] [.cp 240 (.k 80)] (.grp [] [.bin .add 256 (.k 240) (.c (.int .i64 (1)))] (.grp [] [.cp 80 (.k 256)] .nil))) (.jump 1 [0, 16, 80])))) (.ins (.grp [] [.cp 64 (.c (.bool true))] .nil) (.ret [(.bool, [(.k 64)])])))))]
noncomputable def c_laws_eqIntS : List Lf.Fn := []
noncomputable def f_laws_eqIntS : (List Int) → (List Int) → Option (Bool) := tyd [tLI, tLI] [.bool] (fnD (DOf c_laws_eqIntS) s_laws_eqIntS a_laws_eqIntS.L b_laws_eqIntS)
noncomputable def n_laws_eqIntS : Lf.Fn := ⟨s_laws_eqIntS, [tLI, tLI], [.bool], f_laws_eqIntS⟩
noncomputable def l1_laws_eqIntS (v0 : (List Int)) (v16 : (List Int)) (v80 : Int) : Option (Bool) := (Jl (DOf c_laws_eqIntS) (irBlk a_laws_eqIntS.L b_laws_eqIntS) 1 [⟨tLI, v0⟩, ⟨tLI, v16⟩, ⟨tI, v80⟩]).bind (readOuts [.bool])
theorem k_laws_eqIntS : compFn Try.prog (sigsOf c_laws_eqIntS) s_laws_eqIntS a_laws_eqIntS = some b_laws_eqIntS := by kernel_rfl
theorem g_laws_eqIntS : Lf.Good Try.prog n_laws_eqIntS := good_of (by intro _ h; simp [c_laws_eqIntS] at h) k_laws_eqIntS (by kernel_rfl) ⟨Try.f45, by kernel_rfl, by kernel_rfl, by kernel_rfl⟩ [tLI, tLI] [.bool]
theorem f_laws_eqIntS_eq (x0 : (List Int)) (x1 : (List Int)) : f_laws_eqIntS x0 x1 =
    bif ((x0.length : Int) != (x1.length : Int)) then
      some false
    else
      l1_laws_eqIntS x0 x1 (0 : Int) :=
  (show f_laws_eqIntS x0 x1 = (Jl (DOf c_laws_eqIntS) (irBlk a_laws_eqIntS.L b_laws_eqIntS) 0 [⟨tLI, x0⟩, ⟨tLI, x1⟩]).bind (readOuts [.bool]) by kernel_rfl).trans ((Jstep2 (DKOf_eq c_laws_eqIntS)).trans (by kernel_rfl))
theorem l1_laws_eqIntS_eq (v0 : (List Int)) (v16 : (List Int)) (v80 : Int) : l1_laws_eqIntS v0 v16 v80 =
    bif (decide (v80 < (v0.length : Int))) then
      (at? v0 v80).bind fun z1 =>
      (at? v16 v80).bind fun z2 =>
      bif (z1 != z2) then
        some false
      else
        l1_laws_eqIntS v0 v16 (IntKind.wrap .i64 (v80 + (1 : Int)))
    else
      some true :=
  (show l1_laws_eqIntS v0 v16 v80 = (Jl (DOf c_laws_eqIntS) (irBlk a_laws_eqIntS.L b_laws_eqIntS) 1 [⟨tLI, v0⟩, ⟨tLI, v16⟩, ⟨tI, v80⟩]).bind (readOuts [.bool]) by kernel_rfl).trans ((Jstep2 (DKOf_eq c_laws_eqIntS)).trans (by kernel_rfl))
/- loop.example/g01989/laws.eqMethod -/
def s_laws_eqMethod : Sig := ⟨89, [.v tPIPLIPIPII, .v tPIPLIPIPII], [(.bool, [none])]⟩
def a_laws_eqMethod : FAnn := ⟨[⟨[(0, ⟨0, [], .va⟩), (1, ⟨0, [], .va⟩), (2, ⟨0, [], .va⟩), (3, ⟨0, [], .va⟩), (4, ⟨0, [], .va⟩), (15, ⟨0, [], .pl 5 true⟩), (16, ⟨0, [], .va⟩), (17, ⟨0, [], .va⟩), (18, ⟨0, [], .va⟩), (19, ⟨0, [], .va⟩), (20, ⟨0, [], .va⟩), (31, ⟨0, [], .pl 5 true⟩)], [0, 1, 2, 3, 4, 16, 17, 18, 19, 20]⟩],
  (.seq (.reg [aT, aT, aT]) (.seq (.seq (.reg [aT, aT, aT, aT, aT]) (.cond none (.seq (.reg [aT]) .none) .none)) (.seq (.seq (.reg [aT, aT, aT, aT, aT, aT]) (.cond none (.seq (.reg [aT]) .none) .none)) (.seq (.seq (.reg [aT, aT, aT, aT, aT]) (.cond none (.seq (.reg [aT]) .none) .none)) (.seq (.seq (.reg [aT, aT, aT, aT, aT]) (.cond none (.seq (.reg [aT]) .none) .none)) (.seq (.seq (.reg [aT, aT, aT, aT, aT]) (.cond none (.seq (.reg [aT]) .none) .none)) (.seq (.reg [aT]) .none))))))),
  []⟩
def b_laws_eqMethod : List (Nat × Tree) := [(0, (.ins (.grp [] [.cp 32 (.k 0), .cp 33 (.k 1), .cp 34 (.k 2), .cp 35 (.k 3), .cp 36 (.k 4)] (.grp [] [.cp 48 (.k 16), .cp 49 (.k 17), .cp 50 (.k 18), .cp 51 (.k 19), .cp 52 (.k 20)] (.grp [] [.cp 64 (.c (.bool false))] .nil))) (.ins (.grp [] [.cp 96 (.k 32)] (.grp [] [.cp 128 (.k 48)] (.grp [] [.bin .neq 144 (.k 96) (.k 128)] .nil))) (.ite (.k 144) (.ins (.grp [] [.cp 64 (.c (.bool false))] .nil) (.ret [(.bool, [(.k 64)])])) (.ins (.grp [] [.cp 176 (.k 33)] (.grp [] [.cp 208 (.k 49)] (.grp [] [.call 0 [(tLI, [(.k 176)]), (tLI, [(.k 208)])] [[224]]] (.grp [] [.not 240 (.k 224)] .nil)))) (.ite (.k 240) (.ins (.grp [] [.cp 64 (.c (.bool false))] .nil) (.ret [(.bool, [(.k 64)])])) (.ins (.grp [] [.cp 272 (.k 34)] (.grp [] [.cp 304 (.k 50)] (.grp [] [.bin .neq 320 (.k 272) (.k 304)] .nil))) (.ite (.k 320) (.ins (.grp [] [.cp 64 (.c (.bool false))] .nil) (.ret [(.bool, [(.k 64)])])) (.ins (.grp [] [.cp 352 (.k 35)] (.grp [] [.cp 384 (.k 51)] (.grp [] [.bin .neq 400 (.k 352) (.k 384)] .nil))) (.ite (.k 400) (.ins (.grp [] [.cp 64 (.c (.bool false))] .nil) (.ret [(.bool, [(.k 64)])])) (.ins (.grp [] [.cp 432 (.k 36)] (.grp [] [.cp 464 (.k 52)] (.grp [] [.bin .neq 480 (.k 432) (.k 464)] .nil))) (.ite (.k 480) (.ins (.grp [] [.cp 64 (.c (.bool false))] .nil) (.ret [(.bool, [(.k 64)])])) (.ins (.grp [] [.cp 64 (.c (.bool true))] .nil) (.ret [(.bool, [(.k 64)])]))))))))))))))]
noncomputable def c_laws_eqMethod : List Lf.Fn := [n_laws_eqIntS]
noncomputable def f_laws_eqMethod : (Int × ((List Int) × (Int × (Int × Int)))) → (Int × ((List Int) × (Int × (Int × Int)))) → Option (Bool) := tyd [tPIPLIPIPII, tPIPLIPIPII] [.bool] (fnD (DOf c_laws_eqMethod) s_laws_eqMethod a_laws_eqMethod.L b_laws_eqMethod)
noncomputable def n_laws_eqMethod : Lf.Fn := ⟨s_laws_eqMethod, [tPIPLIPIPII, tPIPLIPIPII], [.bool], f_laws_eqMethod⟩
theorem k_laws_eqMethod : compFn Try.prog (sigsOf c_laws_eqMethod) s_laws_eqMethod a_laws_eqMethod = some b_laws_eqMethod := by kernel_rfl
theorem g_laws_eqMethod : Lf.Good Try.prog n_laws_eqMethod := good_of (by simp only [c_laws_eqMethod, List.mem_singleton]; rintro _ rfl; exact g_laws_eqIntS) k_laws_eqMethod (by kernel_rfl) ⟨Try.f89, by kernel_rfl, by kernel_rfl, by kernel_rfl⟩ [tPIPLIPIPII, tPIPLIPIPII] [.bool]
theorem f_laws_eqMethod_eq (x0 : (Int × ((List Int) × (Int × (Int × Int))))) (x1 : (Int × ((List Int) × (Int × (Int × Int))))) : f_laws_eqMethod x0 x1 =
    bif (x0.1 != x1.1) then
      some false
    else
      (f_laws_eqIntS x0.2.1 x1.2.1).bind fun z1 =>
      bif (!z1) then
        some false
      else
        bif (x0.2.2.1 != x1.2.2.1) then
          some false
        else
          bif (x0.2.2.2.1 != x1.2.2.2.1) then
            some false
          else
            bif (x0.2.2.2.2 != x1.2.2.2.2) then
              some false
            else
              some true :=
  (show f_laws_eqMethod x0 x1 = (Jl (DOf c_laws_eqMethod) (irBlk a_laws_eqMethod.L b_laws_eqMethod) 0 [⟨tI, x0.1⟩, ⟨tLI, x0.2.1⟩, ⟨tI, x0.2.2.1⟩, ⟨tI, x0.2.2.2.1⟩, ⟨tI, x0.2.2.2.2⟩, ⟨tI, x1.1⟩, ⟨tLI, x1.2.1⟩, ⟨tI, x1.2.2.1⟩, ⟨tI, x1.2.2.2.1⟩, ⟨tI, x1.2.2.2.2⟩]).bind (readOuts [.bool]) by kernel_rfl).trans ((Jstep2 (DKOf_eq c_laws_eqMethod)).trans (by kernel_rfl))
/- loop.example/g01989/laws.eqMethodS -/
def s_laws_eqMethodS : Sig := ⟨30, [.v tLPIPLIPIPII, .v tLPIPLIPIPII], [(.bool, [none])]⟩
def a_laws_eqMethodS : FAnn := ⟨[⟨[(0, ⟨0, [], .va⟩), (15, ⟨0, [], .pl 1 false⟩), (16, ⟨0, [], .va⟩), (31, ⟨0, [], .pl 1 false⟩)], [0, 16]⟩,
    ⟨[(0, ⟨0, [], .va⟩), (15, ⟨0, [], .pl 1 false⟩), (16, ⟨0, [], .va⟩), (31, ⟨0, [], .pl 1 false⟩), (80, ⟨0, [], .va⟩), (95, ⟨0, [], .pl 1 false⟩)], [0, 16, 80]⟩],
  (.seq (.reg [aT]) (.seq (.seq (.reg [aR, aT, aR, aT, aT]) (.cond none (.seq (.reg [aT]) .none) .none)) (.seq (.seq (.reg [aT]) (.block none (.loop 1 (.seq (.seq (.reg [aR, aR, aT, aT]) (.cond none .none .none)) (.seq (.block none (.seq (.reg [aR, aR, aT, aT, aR, aR, aT, aT, aT, aT]) (.cond none (.seq (.reg [aT]) .none) .none))) (.reg [aR, aT, aT])))))) (.seq (.reg [aT]) .none)))),
  []⟩
def b_laws_eqMethodS : List (Nat × Tree) := [(0, (.ins (.grp [] [.cp 64 (.c (.bool false))] .nil) (.ins (.grp [] [.cp 96 (.k 0)] (.grp [] [.len false 112 (.k 96)] (.grp [] [.cp 128 (.k 16)] (.grp [] [.len false 144 (.k 128)] (.grp [] [.bin .neq 160 (.k 112) (.k 144)] .nil))))) (.ite (.k 160) (.ins (.grp [] [.cp 64 (.c (.bool false))] .nil) (.ret [(.bool, [(.k 64)])])) (.ins (.grp [] [.cp 80 (.c (.int .i64 (0)))] .nil) (.jump 1 [0, 16, 80])))))),
  (1, (.ins (.grp [] [.cp 176 (.k 80)] (.grp [] [.cp 192 (.k 0)] (.grp [] [.len false 208 (.k 192)] (.grp [] [.bin .lss 224 (.k 176) (.k 208)] .nil)))) (.ite (.k 224) (.ins (.grp [] [.cp 272 (.k 0)] (.grp [] [.cp 288 (.k 80)] (.grp [] [.idx (some tPIPLIPIPII) [304, 305, 306, 307, 308] 0 (.k 272) (.k 288)] (.grp [] [.cp 320 (.k 304), .cp 321 (.k 305), .cp 322 (.k 306), .cp 323 (.k 307), .cp 324 (.k 308)] (.grp [] [.cp 336 (.k 16)] (.grp [] [.cp 352 (.k 80)] (.grp [] [.idx (some tPIPLIPIPII) [368, 369, 370, 371, 372] 0 (.k 336) (.k 352)] (.grp [] [.cp 384 (.k 368), .cp 385 (.k 369), .cp 386 (.k 370), .cp 387 (.k 371), .cp 388 (.k 372)] (.grp [] [.call 0 [(tPIPLIPIPII, [(.k 320), (.k 321), (.k 322), (.k 323), (.k 324)]), (tPIPLIPIPII, [(.k 384), (.k 385), (.k 386), (.k 387), (.k 388)])] [[400]]] (.grp [] [.not 416 (.k 400)] .nil)))))))))) (.ite (.k 416) (.ins (.grp [] [.cp 64 (.c (.bool false))] .nil) (.ret [(.bool, [(.k 64)])])) (.ins (.grp [] [.cp 240 (.k 80)] (.grp [] [.bin .add 256 (.k 240) (.c (.int .i64 (1)))] (.grp [] [.cp 80 (.k 256)] .nil))) (.jump 1 [0, 16, 80])))) (.ins (.grp [] [.cp 64 (.c (.bool true))] .nil) (.ret [(.bool, [(.k 64)])])))))]
noncomputable def c_laws_eqMethodS : List Lf.Fn := [n_laws_eqMethod]
noncomputable def f_laws_eqMethodS : (List (Int × ((List Int) × (Int × (Int × Int))))) → (List (Int × ((List Int) × (Int × (Int × Int))))) → Option (Bool) := tyd [tLPIPLIPIPII, tLPIPLIPIPII] [.bool] (fnD (DOf c_laws_eqMethodS) s_laws_eqMethodS a_laws_eqMethodS.L b_laws_eqMethodS)
noncomputable def n_laws_eqMethodS : Lf.Fn := ⟨s_laws_eqMethodS, [tLPIPLIPIPII, tLPIPLIPIPII], [.bool], f_laws_eqMethodS⟩
noncomputable def l1_laws_eqMethodS (v0 : (List (Int × ((List Int) × (Int × (Int × Int)))))) (v16 : (List (Int × ((List Int) × (Int × (Int × Int)))))) (v80 : Int) : Option (Bool) := (Jl (DOf c_laws_eqMethodS) (irBlk a_laws_eqMethodS.L b_laws_eqMethodS) 1 [⟨tLPIPLIPIPII, v0⟩, ⟨tLPIPLIPIPII, v16⟩, ⟨tI, v80⟩]).bind (readOuts [.bool])
theorem k_laws_eqMethodS : compFn Try.prog (sigsOf c_laws_eqMethodS) s_laws_eqMethodS a_laws_eqMethodS = some b_laws_eqMethodS := by kernel_rfl
theorem g_laws_eqMethodS : Lf.Good Try.prog n_laws_eqMethodS := good_of (by simp only [c_laws_eqMethodS, List.mem_singleton]; rintro _ rfl; exact g_laws_eqMethod) k_laws_eqMethodS (by kernel_rfl) ⟨Try.f30, by kernel_rfl, by kernel_rfl, by kernel_rfl⟩ [tLPIPLIPIPII, tLPIPLIPIPII] [.bool]
theorem f_laws_eqMethodS_eq (x0 : (List (Int × ((List Int) × (Int × (Int × Int)))))) (x1 : (List (Int × ((List Int) × (Int × (Int × Int)))))) : f_laws_eqMethodS x0 x1 =
    bif ((x0.length : Int) != (x1.length : Int)) then
      some false
    else
      l1_laws_eqMethodS x0 x1 (0 : Int) :=
  (show f_laws_eqMethodS x0 x1 = (Jl (DOf c_laws_eqMethodS) (irBlk a_laws_eqMethodS.L b_laws_eqMethodS) 0 [⟨tLPIPLIPIPII, x0⟩, ⟨tLPIPLIPIPII, x1⟩]).bind (readOuts [.bool]) by kernel_rfl).trans ((Jstep2 (DKOf_eq c_laws_eqMethodS)).trans (by kernel_rfl))
theorem l1_laws_eqMethodS_eq (v0 : (List (Int × ((List Int) × (Int × (Int × Int)))))) (v16 : (List (Int × ((List Int) × (Int × (Int × Int)))))) (v80 : Int) : l1_laws_eqMethodS v0 v16 v80 =
    bif (decide (v80 < (v0.length : Int))) then
      (at? v0 v80).bind fun z1 =>
      (at? v16 v80).bind fun z2 =>
      (f_laws_eqMethod z1 z2).bind fun z3 =>
      bif (!z3) then
        some false
      else
        l1_laws_eqMethodS v0 v16 (IntKind.wrap .i64 (v80 + (1 : Int)))
    else
      some true :=
  (show l1_laws_eqMethodS v0 v16 v80 = (Jl (DOf c_laws_eqMethodS) (irBlk a_laws_eqMethodS.L b_laws_eqMethodS) 1 [⟨tLPIPLIPIPII, v0⟩, ⟨tLPIPLIPIPII, v16⟩, ⟨tI, v80⟩]).bind (readOuts [.bool]) by kernel_rfl).trans ((Jstep2 (DKOf_eq c_laws_eqMethodS)).trans (by kernel_rfl))
/- loop.example/g01989/laws.eqAtom -/
def s_laws_eqAtom : Sig := ⟨151, [.v tPILI, .v tPILI], [(.bool, [none])]⟩
def a_laws_eqAtom : FAnn := ⟨[⟨[(0, ⟨0, [], .va⟩), (1, ⟨0, [], .va⟩), (15, ⟨0, [], .pl 2 true⟩), (16, ⟨0, [], .va⟩), (17, ⟨0, [], .va⟩), (31, ⟨0, [], .pl 2 true⟩)], [0, 1, 16, 17]⟩],
  (.seq (.reg [aT, aT, aT]) (.seq (.seq (.reg [aT, aT, aT, aT, aT]) (.cond none (.seq (.reg [aT]) .none) .none)) (.seq (.seq (.reg [aT, aT, aT, aT, aT, aT]) (.cond none (.seq (.reg [aT]) .none) .none)) (.seq (.reg [aT]) .none)))),
  []⟩
def b_laws_eqAtom : List (Nat × Tree) := [(0, (.ins (.grp [] [.cp 32 (.k 0), .cp 33 (.k 1)] (.grp [] [.cp 48 (.k 16), .cp 49 (.k 17)] (.grp [] [.cp 64 (.c (.bool false))] .nil))) (.ins (.grp [] [.cp 96 (.k 32)] (.grp [] [.cp 128 (.k 48)] (.grp [] [.bin .neq 144 (.k 96) (.k 128)] .nil))) (.ite (.k 144) (.ins (.grp [] [.cp 64 (.c (.bool false))] .nil) (.ret [(.bool, [(.k 64)])])) (.ins (.grp [] [.cp 176 (.k 33)] (.grp [] [.cp 208 (.k 49)] (.grp [] [.call 0 [(tLI, [(.k 176)]), (tLI, [(.k 208)])] [[224]]] (.grp [] [.not 240 (.k 224)] .nil)))) (.ite (.k 240) (.ins (.grp [] [.cp 64 (.c (.bool false))] .nil) (.ret [(.bool, [(.k 64)])])) (.ins (.grp [] [.cp 64 (.c (.bool true))] .nil) (.ret [(.bool, [(.k 64)])]))))))))]
noncomputable def c_laws_eqAtom : List Lf.Fn := [n_laws_eqIntS]
noncomputable def f_laws_eqAtom : (Int × (List Int)) → (Int × (List Int)) → Option (Bool) := tyd [tPILI, tPILI] [.bool] (fnD (DOf c_laws_eqAtom) s_laws_eqAtom a_laws_eqAtom.L b_laws_eqAtom)
noncomputable def n_laws_eqAtom : Lf.Fn := ⟨s_laws_eqAtom, [tPILI, tPILI], [.bool], f_laws_eqAtom⟩
theorem k_laws_eqAtom : compFn Try.prog (sigsOf c_laws_eqAtom) s_laws_eqAtom a_laws_eqAtom = some b_laws_eqAtom := by kernel_rfl
theorem g_laws_eqAtom : Lf.Good Try.prog n_laws_eqAtom := good_of (by simp only [c_laws_eqAtom, List.mem_singleton]; rintro _ rfl; exact g_laws_eqIntS) k_laws_eqAtom (by kernel_rfl) ⟨Try.f151, by kernel_rfl, by kernel_rfl, by kernel_rfl⟩ [tPILI, tPILI] [.bool]
theorem f_laws_eqAtom_eq (x0 : (Int × (List Int))) (x1 : (Int × (List Int))) : f_laws_eqAtom x0 x1 =
    bif (x0.1 != x1.1) then
      some false
    else
      (f_laws_eqIntS x0.2 x1.2).bind fun z1 =>
      bif (!z1) then
        some false
      else
        some true :=
  (show f_laws_eqAtom x0 x1 = (Jl (DOf c_laws_eqAtom) (irBlk a_laws_eqAtom.L b_laws_eqAtom) 0 [⟨tI, x0.1⟩, ⟨tLI, x0.2⟩, ⟨tI, x1.1⟩, ⟨tLI, x1.2⟩]).bind (readOuts [.bool]) by kernel_rfl).trans ((Jstep2 (DKOf_eq c_laws_eqAtom)).trans (by kernel_rfl))
/- loop.example/g01989/laws.eqAtomS -/
def s_laws_eqAtomS : Sig := ⟨88, [.v tLPILI, .v tLPILI], [(.bool, [none])]⟩
def a_laws_eqAtomS : FAnn := ⟨[⟨[(0, ⟨0, [], .va⟩), (15, ⟨0, [], .pl 1 false⟩), (16, ⟨0, [], .va⟩), (31, ⟨0, [], .pl 1 false⟩)], [0, 16]⟩,
    ⟨[(0, ⟨0, [], .va⟩), (15, ⟨0, [], .pl 1 false⟩), (16, ⟨0, [], .va⟩), (31, ⟨0, [], .pl 1 false⟩), (80, ⟨0, [], .va⟩), (95, ⟨0, [], .pl 1 false⟩)], [0, 16, 80]⟩],
  (.seq (.reg [aT]) (.seq (.seq (.reg [aR, aT, aR, aT, aT]) (.cond none (.seq (.reg [aT]) .none) .none)) (.seq (.seq (.reg [aT]) (.block none (.loop 1 (.seq (.seq (.reg [aR, aR, aT, aT]) (.cond none .none .none)) (.seq (.block none (.seq (.reg [aR, aR, aT, aT, aR, aR, aT, aT, aT, aT]) (.cond none (.seq (.reg [aT]) .none) .none))) (.reg [aR, aT, aT])))))) (.seq (.reg [aT]) .none)))),
  []⟩
def b_laws_eqAtomS : List (Nat × Tree) := [(0, (.ins (.grp [] [.cp 64 (.c (.bool false))] .nil) (.ins (.grp [] [.cp 96 (.k 0)] (.grp [] [.len false 112 (.k 96)] (.grp [] [.cp 128 (.k 16)] (.grp [] [.len false 144 (.k 128)] (.grp [] [.bin .neq 160 (.k 112) (.k 144)] .nil))))) (.ite (.k 160) (.ins (.grp [] [.cp 64 (.c (.bool false))] .nil) (.ret [(.bool, [(.k 64)])])) (.ins (.grp [] [.cp 80 (.c (.int .i64 (0)))] .nil) (.jump 1 [0, 16, 80])))))),
  (1, (.ins (.grp [] [.cp 176 (.k 80)] (.grp [] [.cp 192 (.k 0)] (.grp [] [.len false 208 (.k 192)] (.grp [] [.bin .lss 224 (.k 176) (.k 208)] .nil)))) (.ite (.k 224) (.ins (.grp [] [.cp 272 (.k 0)] (.grp [] [.cp 288 (.k 80)] (.grp [] [.idx (some tPILI) [304, 305] 0 (.k 272) (.k 288)] (.grp [] [.cp 320 (.k 304), .cp 321 (.k 305)] (.grp [] [.cp 336 (.k 16)] (.grp [] [.cp 352 (.k 80)] (.grp [] [.idx (some tPILI) [368, 369] 0 (.k 336) (.k 352)] (.grp [] [.cp 384 (.k 368), .cp 385 (.k 369)] (.grp [] [.call 0 [(tPILI, [(.k 320), (.k 321)]), (tPILI, [(.k 384), (.k 385)])] [[400]]] (.grp [] [.not 416 (.k 400)] .nil)))))))))) (.ite (.k 416) (.ins (.grp [] [.cp 64 (.c (.bool false))] .nil) (.ret [(.bool, [(.k 64)])])) (.ins (.grp [] [.cp 240 (.k 80)] (.grp [] [.bin .add 256 (.k 240) (.c (.int .i64 (1)))] (.grp [] [.cp 80 (.k 256)] .nil))) (.jump 1 [0, 16, 80])))) (.ins (.grp [] [.cp 64 (.c (.bool true))] .nil) (.ret [(.bool, [(.k 64)])])))))]
noncomputable def c_laws_eqAtomS : List Lf.Fn := [n_laws_eqAtom]
noncomputable def f_laws_eqAtomS : (List (Int × (List Int))) → (List (Int × (List Int))) → Option (Bool) := tyd [tLPILI, tLPILI] [.bool] (fnD (DOf c_laws_eqAtomS) s_laws_eqAtomS a_laws_eqAtomS.L b_laws_eqAtomS)
noncomputable def n_laws_eqAtomS : Lf.Fn := ⟨s_laws_eqAtomS, [tLPILI, tLPILI], [.bool], f_laws_eqAtomS⟩
noncomputable def l1_laws_eqAtomS (v0 : (List (Int × (List Int)))) (v16 : (List (Int × (List Int)))) (v80 : Int) : Option (Bool) := (Jl (DOf c_laws_eqAtomS) (irBlk a_laws_eqAtomS.L b_laws_eqAtomS) 1 [⟨tLPILI, v0⟩, ⟨tLPILI, v16⟩, ⟨tI, v80⟩]).bind (readOuts [.bool])
theorem k_laws_eqAtomS : compFn Try.prog (sigsOf c_laws_eqAtomS) s_laws_eqAtomS a_laws_eqAtomS = some b_laws_eqAtomS := by kernel_rfl
theorem g_laws_eqAtomS : Lf.Good Try.prog n_laws_eqAtomS := good_of (by simp only [c_laws_eqAtomS, List.mem_singleton]; rintro _ rfl; exact g_laws_eqAtom) k_laws_eqAtomS (by kernel_rfl) ⟨Try.f88, by kernel_rfl, by kernel_rfl, by kernel_rfl⟩ [tLPILI, tLPILI] [.bool]
theorem f_laws_eqAtomS_eq (x0 : (List (Int × (List Int)))) (x1 : (List (Int × (List Int)))) : f_laws_eqAtomS x0 x1 =
    bif ((x0.length : Int) != (x1.length : Int)) then
      some false
    else
      l1_laws_eqAtomS x0 x1 (0 : Int) :=
  (show f_laws_eqAtomS x0 x1 = (Jl (DOf c_laws_eqAtomS) (irBlk a_laws_eqAtomS.L b_laws_eqAtomS) 0 [⟨tLPILI, x0⟩, ⟨tLPILI, x1⟩]).bind (readOuts [.bool]) by kernel_rfl).trans ((Jstep2 (DKOf_eq c_laws_eqAtomS)).trans (by kernel_rfl))
theorem l1_laws_eqAtomS_eq (v0 : (List (Int × (List Int)))) (v16 : (List (Int × (List Int)))) (v80 : Int) : l1_laws_eqAtomS v0 v16 v80 =
    bif (decide (v80 < (v0.length : Int))) then
      (at? v0 v80).bind fun z1 =>
      (at? v16 v80).bind fun z2 =>
      (f_laws_eqAtom z1 z2).bind fun z3 =>
      bif (!z3) then
        some false
      else
        l1_laws_eqAtomS v0 v16 (IntKind.wrap .i64 (v80 + (1 : Int)))
    else
      some true :=
  (show l1_laws_eqAtomS v0 v16 v80 = (Jl (DOf c_laws_eqAtomS) (irBlk a_laws_eqAtomS.L b_laws_eqAtomS) 1 [⟨tLPILI, v0⟩, ⟨tLPILI, v16⟩, ⟨tI, v80⟩]).bind (readOuts [.bool]) by kernel_rfl).trans ((Jstep2 (DKOf_eq c_laws_eqAtomS)).trans (by kernel_rfl))
/- loop.example/g01989/laws.eqQuery -/
def s_laws_eqQuery : Sig := ⟨29, [.v tPLILPILI, .v tPLILPILI], [(.bool, [none])]⟩
def a_laws_eqQuery : FAnn := ⟨[⟨[(0, ⟨0, [], .va⟩), (1, ⟨0, [], .va⟩), (15, ⟨0, [], .pl 2 true⟩), (16, ⟨0, [], .va⟩), (17, ⟨0, [], .va⟩), (31, ⟨0, [], .pl 2 true⟩)], [0, 1, 16, 17]⟩],
  (.seq (.reg [aT, aT, aT]) (.seq (.seq (.reg [aT, aT, aT, aT, aT, aT]) (.cond none (.seq (.reg [aT]) .none) .none)) (.seq (.seq (.reg [aT, aT, aT, aT, ⟨.take, 1, []⟩, aT]) (.cond none (.seq (.reg [aT]) .none) .none)) (.seq (.reg [aT]) .none)))),
  []⟩
def b_laws_eqQuery : List (Nat × Tree) := [(0, (.ins (.grp [] [.cp 32 (.k 0), .cp 33 (.k 1)] (.grp [] [.cp 48 (.k 16), .cp 49 (.k 17)] (.grp [] [.cp 64 (.c (.bool false))] .nil))) (.ins (.grp [] [.cp 96 (.k 32)] (.grp [] [.cp 128 (.k 48)] (.grp [] [.call 0 [(tLI, [(.k 96)]), (tLI, [(.k 128)])] [[144]]] (.grp [] [.not 160 (.k 144)] .nil)))) (.ite (.k 160) (.ins (.grp [] [.cp 64 (.c (.bool false))] .nil) (.ret [(.bool, [(.k 64)])])) (.ins (.grp [] [.cp 192 (.k 33)] (.grp [] [.cp 224 (.k 49)] (.grp [] [.call 1 [(tLPILI, [(.k 192)]), (tLPILI, [(.k 224)])] [[240]]] (.grp [] [.not 256 (.k 240)] .nil)))) (.ite (.k 256) (.ins (.grp [] [.cp 64 (.c (.bool false))] .nil) (.ret [(.bool, [(.k 64)])])) (.ins (.grp [] [.cp 64 (.c (.bool true))] .nil) (.ret [(.bool, [(.k 64)])]))))))))]
noncomputable def c_laws_eqQuery : List Lf.Fn := [n_laws_eqIntS, n_laws_eqAtomS]
noncomputable def f_laws_eqQuery : ((List Int) × (List (Int × (List Int)))) → ((List Int) × (List (Int × (List Int)))) → Option (Bool) := tyd [tPLILPILI, tPLILPILI] [.bool] (fnD (DOf c_laws_eqQuery) s_laws_eqQuery a_laws_eqQuery.L b_laws_eqQuery)
noncomputable def n_laws_eqQuery : Lf.Fn := ⟨s_laws_eqQuery, [tPLILPILI, tPLILPILI], [.bool], f_laws_eqQuery⟩
theorem k_laws_eqQuery : compFn Try.prog (sigsOf c_laws_eqQuery) s_laws_eqQuery a_laws_eqQuery = some b_laws_eqQuery := by kernel_rfl
theorem g_laws_eqQuery : Lf.Good Try.prog n_laws_eqQuery := good_of (by simp only [c_laws_eqQuery, List.mem_cons, List.not_mem_nil, or_false]; rintro _ (rfl | rfl); exact g_laws_eqIntS; exact g_laws_eqAtomS) k_laws_eqQuery (by kernel_rfl) ⟨Try.f29, by kernel_rfl, by kernel_rfl, by kernel_rfl⟩ [tPLILPILI, tPLILPILI] [.bool]
theorem f_laws_eqQuery_eq (x0 : ((List Int) × (List (Int × (List Int))))) (x1 : ((List Int) × (List (Int × (List Int))))) : f_laws_eqQuery x0 x1 =
    (f_laws_eqIntS x0.1 x1.1).bind fun z1 =>
    bif (!z1) then
      some false
    else
      (f_laws_eqAtomS x0.2 x1.2).bind fun z2 =>
      bif (!z2) then
        some false
      else
        some true :=
  (show f_laws_eqQuery x0 x1 = (Jl (DOf c_laws_eqQuery) (irBlk a_laws_eqQuery.L b_laws_eqQuery) 0 [⟨tLI, x0.1⟩, ⟨tLPILI, x0.2⟩, ⟨tLI, x1.1⟩, ⟨tLPILI, x1.2⟩]).bind (readOuts [.bool]) by kernel_rfl).trans ((Jstep2 (DKOf_eq c_laws_eqQuery)).trans (by kernel_rfl))
/- loop.example/g01989/laws.eqAccess -/
def s_laws_eqAccess : Sig := ⟨22, [.v tPILI, .v tPILI], [(.bool, [none])]⟩
def a_laws_eqAccess : FAnn := ⟨[⟨[(0, ⟨0, [], .va⟩), (1, ⟨0, [], .va⟩), (15, ⟨0, [], .pl 2 true⟩), (16, ⟨0, [], .va⟩), (17, ⟨0, [], .va⟩), (31, ⟨0, [], .pl 2 true⟩)], [0, 1, 16, 17]⟩],
  (.seq (.reg [aT, aT, aT]) (.seq (.seq (.reg [aT, aT, aT, aT, aT]) (.cond none (.seq (.reg [aT]) .none) .none)) (.seq (.seq (.reg [aT, aT, aT, aT, aT, aT]) (.cond none (.seq (.reg [aT]) .none) .none)) (.seq (.reg [aT]) .none)))),
  []⟩
def b_laws_eqAccess : List (Nat × Tree) := [(0, (.ins (.grp [] [.cp 32 (.k 0), .cp 33 (.k 1)] (.grp [] [.cp 48 (.k 16), .cp 49 (.k 17)] (.grp [] [.cp 64 (.c (.bool false))] .nil))) (.ins (.grp [] [.cp 96 (.k 32)] (.grp [] [.cp 128 (.k 48)] (.grp [] [.bin .neq 144 (.k 96) (.k 128)] .nil))) (.ite (.k 144) (.ins (.grp [] [.cp 64 (.c (.bool false))] .nil) (.ret [(.bool, [(.k 64)])])) (.ins (.grp [] [.cp 176 (.k 33)] (.grp [] [.cp 208 (.k 49)] (.grp [] [.call 0 [(tLI, [(.k 176)]), (tLI, [(.k 208)])] [[224]]] (.grp [] [.not 240 (.k 224)] .nil)))) (.ite (.k 240) (.ins (.grp [] [.cp 64 (.c (.bool false))] .nil) (.ret [(.bool, [(.k 64)])])) (.ins (.grp [] [.cp 64 (.c (.bool true))] .nil) (.ret [(.bool, [(.k 64)])]))))))))]
noncomputable def c_laws_eqAccess : List Lf.Fn := [n_laws_eqIntS]
noncomputable def f_laws_eqAccess : (Int × (List Int)) → (Int × (List Int)) → Option (Bool) := tyd [tPILI, tPILI] [.bool] (fnD (DOf c_laws_eqAccess) s_laws_eqAccess a_laws_eqAccess.L b_laws_eqAccess)
noncomputable def n_laws_eqAccess : Lf.Fn := ⟨s_laws_eqAccess, [tPILI, tPILI], [.bool], f_laws_eqAccess⟩
theorem k_laws_eqAccess : compFn Try.prog (sigsOf c_laws_eqAccess) s_laws_eqAccess a_laws_eqAccess = some b_laws_eqAccess := by kernel_rfl
theorem g_laws_eqAccess : Lf.Good Try.prog n_laws_eqAccess := good_of (by simp only [c_laws_eqAccess, List.mem_singleton]; rintro _ rfl; exact g_laws_eqIntS) k_laws_eqAccess (by kernel_rfl) ⟨Try.f22, by kernel_rfl, by kernel_rfl, by kernel_rfl⟩ [tPILI, tPILI] [.bool]
theorem f_laws_eqAccess_eq (x0 : (Int × (List Int))) (x1 : (Int × (List Int))) : f_laws_eqAccess x0 x1 =
    bif (x0.1 != x1.1) then
      some false
    else
      (f_laws_eqIntS x0.2 x1.2).bind fun z1 =>
      bif (!z1) then
        some false
      else
        some true :=
  (show f_laws_eqAccess x0 x1 = (Jl (DOf c_laws_eqAccess) (irBlk a_laws_eqAccess.L b_laws_eqAccess) 0 [⟨tI, x0.1⟩, ⟨tLI, x0.2⟩, ⟨tI, x1.1⟩, ⟨tLI, x1.2⟩]).bind (readOuts [.bool]) by kernel_rfl).trans ((Jstep2 (DKOf_eq c_laws_eqAccess)).trans (by kernel_rfl))
/- loop.example/g01989/laws.markIntS -/
def s_laws_markIntS : Sig := ⟨47, [.io tLI [some .sc], .v tI], [(tI, [none])]⟩
def a_laws_markIntS : FAnn := ⟨[⟨[(0, ⟨0, [], .ro .sc (some 0)⟩), (15, ⟨0, [], .pl 1 false⟩), (16, ⟨0, [], .va⟩), (31, ⟨0, [], .pl 1 false⟩)], [0, 16]⟩,
    ⟨[(0, ⟨0, [], .ro .sc (some 0)⟩), (15, ⟨0, [], .pl 1 false⟩), (16, ⟨0, [], .va⟩), (31, ⟨0, [], .pl 1 false⟩), (80, ⟨0, [], .va⟩), (95, ⟨0, [], .pl 1 false⟩)], [0, 16, 80]⟩],
  (.seq (.reg [aT]) (.seq (.seq (.reg [aT]) (.block none (.loop 1 (.seq (.seq (.reg [aR, aR, aT, aT]) (.cond none .none .none)) (.seq (.block none (.seq (.reg [aR, aR, aR, aT, aT]) (.reg [aR, aT, aT]))) (.reg [aR, aT, aT])))))) (.seq (.reg [aR, aT]) .none))),
  [0]⟩
def b_laws_markIntS : List (Nat × Tree) := [(0, (.ins (.grp [] [.cp 64 (.c (.int .i64 (0)))] .nil) (.ins (.grp [] [.cp 80 (.c (.int .i64 (0)))] .nil) (.jump 1 [0, 16, 80])))),
  (1, (.ins (.grp [] [.cp 96 (.k 80)] (.grp [] [.cp 112 (.k 0)] (.grp [] [.len false 128 (.k 112)] (.grp [] [.bin .lss 144 (.k 96) (.k 128)] .nil)))) (.ite (.k 144) (.ins (.grp [] [.cp 192 (.k 0)] (.grp [] [.cp 208 (.k 80)] (.grp [] [.cp 224 (.k 16)] (.grp [] [.chk tI (.k 0) (.k 208)] (.grp [] [.setE 0 (.k 208) 0 [tI] [(.k 224)]] .nil))))) (.ins (.grp [] [.cp 256 (.k 16)] (.grp [] [.bin .add 272 (.k 256) (.c (.int .i64 (1)))] (.grp [] [.cp 16 (.k 272)] .nil))) (.ins (.grp [] [.cp 160 (.k 80)] (.grp [] [.bin .add 176 (.k 160) (.c (.int .i64 (1)))] (.grp [] [.cp 80 (.k 176)] .nil))) (.jump 1 [0, 16, 80])))) (.ins (.grp [] [.cp 288 (.k 16)] (.grp [] [.cp 64 (.k 288)] .nil)) (.ret [(tI, [(.k 64)]), (tLI, [(.k 0)])])))))]
noncomputable def c_laws_markIntS : List Lf.Fn := []
noncomputable def f_laws_markIntS : (List Int) → Int → Option (Int × (List Int)) := tyd [tLI, tI] [tI, tLI] (fnD (DOf c_laws_markIntS) s_laws_markIntS a_laws_markIntS.L b_laws_markIntS)
noncomputable def n_laws_markIntS : Lf.Fn := ⟨s_laws_markIntS, [tLI, tI], [tI, tLI], f_laws_markIntS⟩
noncomputable def l1_laws_markIntS (v0 : (List Int)) (v16 : Int) (v80 : Int) : Option (Int × (List Int)) := (Jl (DOf c_laws_markIntS) (irBlk a_laws_markIntS.L b_laws_markIntS) 1 [⟨tLI, v0⟩, ⟨tI, v16⟩, ⟨tI, v80⟩]).bind (readOuts [tI, tLI])
theorem k_laws_markIntS : compFn Try.prog (sigsOf c_laws_markIntS) s_laws_markIntS a_laws_markIntS = some b_laws_markIntS := by kernel_rfl
theorem g_laws_markIntS : Lf.Good Try.prog n_laws_markIntS := good_of (by intro _ h; simp [c_laws_markIntS] at h) k_laws_markIntS (by kernel_rfl) ⟨Try.f47, by kernel_rfl, by kernel_rfl, by kernel_rfl⟩ [tLI, tI] [tI, tLI]
theorem f_laws_markIntS_eq (x0 : (List Int)) (x1 : Int) : f_laws_markIntS x0 x1 =
    l1_laws_markIntS x0 x1 (0 : Int) :=
  (show f_laws_markIntS x0 x1 = (Jl (DOf c_laws_markIntS) (irBlk a_laws_markIntS.L b_laws_markIntS) 0 [⟨tLI, x0⟩, ⟨tI, x1⟩]).bind (readOuts [tI, tLI]) by kernel_rfl).trans ((Jstep2 (DKOf_eq c_laws_markIntS)).trans (by kernel_rfl))
theorem l1_laws_markIntS_eq (v0 : (List Int)) (v16 : Int) (v80 : Int) : l1_laws_markIntS v0 v16 v80 =
    bif (decide (v80 < (v0.length : Int))) then
      (at? v0 v80).bind fun _ =>
      (at? v0 v80).bind fun z1 =>
      l1_laws_markIntS (v0.set (Int.toNat v80) v16) (IntKind.wrap .i64 (v16 + (1 : Int))) (IntKind.wrap .i64 (v80 + (1 : Int)))
    else
      some (v16, v0) :=
  (show l1_laws_markIntS v0 v16 v80 = (Jl (DOf c_laws_markIntS) (irBlk a_laws_markIntS.L b_laws_markIntS) 1 [⟨tLI, v0⟩, ⟨tI, v16⟩, ⟨tI, v80⟩]).bind (readOuts [tI, tLI]) by kernel_rfl).trans ((Jstep2 (DKOf_eq c_laws_markIntS)).trans (by kernel_rfl))
/- loop.example/g01989/laws.markMethodS -/
def s_laws_markMethodS : Sig := ⟨39, [.io tLPIPLIPIPII [some m46dba], .v tI], [(tI, [none])]⟩
def a_laws_markMethodS : FAnn := ⟨[⟨[(0, ⟨0, [], .ro m46dba (some 0)⟩), (15, ⟨0, [], .pl 1 false⟩), (16, ⟨0, [], .va⟩), (31, ⟨0, [], .pl 1 false⟩)], [0, 16]⟩,
    ⟨[(0, ⟨0, [], .ro m46dba (some 0)⟩), (15, ⟨0, [], .pl 1 false⟩), (16, ⟨0, [], .va⟩), (31, ⟨0, [], .pl 1 false⟩), (80, ⟨0, [], .va⟩), (95, ⟨0, [], .pl 1 false⟩)], [0, 16, 80]⟩],
  (.seq (.reg [aT]) (.seq (.seq (.reg [aT]) (.block none (.loop 1 (.seq (.seq (.reg [aR, aR, aT, aT]) (.cond none .none .none)) (.seq (.block none (.seq (.reg [aR, aR, aR, aT, aT, aT]) (.seq (.reg [aR, aT, aT]) (.seq (.reg [aR, aR, aT, aT, aT, aR, aT, aT]) (.seq (.reg [aR, aR, aR, aT, aT, aT]) (.seq (.reg [aR, aT, aT]) (.seq (.reg [aR, aR, aR, aT, aT, aT]) (.seq (.reg [aR, aT, aT]) (.seq (.reg [aR, aR, aR, aT, aT, aT]) (.reg [aR, aT, aT])))))))))) (.reg [aR, aT, aT])))))) (.seq (.reg [aR, aT]) .none))),
  [0]⟩
def b_laws_markMethodS : List (Nat × Tree) := [(0, (.ins (.grp [] [.cp 64 (.c (.int .i64 (0)))] .nil) (.ins (.grp [] [.cp 80 (.c (.int .i64 (0)))] .nil) (.jump 1 [0, 16, 80])))),
  (1, (.ins (.grp [] [.cp 96 (.k 80)] (.grp [] [.cp 112 (.k 0)] (.grp [] [.len false 128 (.k 112)] (.grp [] [.bin .lss 144 (.k 96) (.k 128)] .nil)))) (.ite (.k 144) (.ins (.grp [] [.cp 192 (.k 0)] (.grp [] [.cp 208 (.k 80)] (.grp [] [.cp 224 (.k 16)] (.grp [] [.chk tPIPLIPIPII (.k 0) (.k 208)] (.grp [] [.setE 0 (.k 208) 0 [tI] [(.k 224)]] .nil))))) (.ins (.grp [] [.cp 272 (.k 16)] (.grp [] [.bin .add 288 (.k 272) (.c (.int .i64 (1)))] (.grp [] [.cp 16 (.k 288)] .nil))) (.ins (.grp [] [.cp 304 (.k 0)] (.grp [] [.cp 320 (.k 80)] (.grp [] [.chk tPIPLIPIPII (.k 0) (.k 320)] (.grp [] [.idx none [368] 1 (.k 0) (.k 320)] (.grp [] [.cp 384 (.k 16)] (.grp [] [.call 0 [(tLI, [(.k 368)]), (tI, [(.k 384)])] [[400], [412]], .setE 0 (.k 320) 1 [tLI] [(.k 412)]] (.grp [] [.cp 16 (.k 400)] .nil))))))) (.ins (.grp [] [.cp 416 (.k 0)] (.grp [] [.cp 432 (.k 80)] (.grp [] [.cp 448 (.k 16)] (.grp [] [.chk tPIPLIPIPII (.k 0) (.k 432)] (.grp [] [.setE 0 (.k 432) 2 [tI] [(.k 448)]] .nil))))) (.ins (.grp [] [.cp 496 (.k 16)] (.grp [] [.bin .add 512 (.k 496) (.c (.int .i64 (1)))] (.grp [] [.cp 16 (.k 512)] .nil))) (.ins (.grp [] [.cp 528 (.k 0)] (.grp [] [.cp 544 (.k 80)] (.grp [] [.cp 560 (.k 16)] (.grp [] [.chk tPIPLIPIPII (.k 0) (.k 544)] (.grp [] [.setE 0 (.k 544) 3 [tI] [(.k 560)]] .nil))))) (.ins (.grp [] [.cp 608 (.k 16)] (.grp [] [.bin .add 624 (.k 608) (.c (.int .i64 (1)))] (.grp [] [.cp 16 (.k 624)] .nil))) (.ins (.grp [] [.cp 640 (.k 0)] (.grp [] [.cp 656 (.k 80)] (.grp [] [.cp 672 (.k 16)] (.grp [] [.chk tPIPLIPIPII (.k 0) (.k 656)] (.grp [] [.setE 0 (.k 656) 4 [tI] [(.k 672)]] .nil))))) (.ins (.grp [] [.cp 720 (.k 16)] (.grp [] [.bin .add 736 (.k 720) (.c (.int .i64 (1)))] (.grp [] [.cp 16 (.k 736)] .nil))) (.ins (.grp [] [.cp 160 (.k 80)] (.grp [] [.bin .add 176 (.k 160) (.c (.int .i64 (1)))] (.grp [] [.cp 80 (.k 176)] .nil))) (.jump 1 [0, 16, 80]))))))))))) (.ins (.grp [] [.cp 752 (.k 16)] (.grp [] [.cp 64 (.k 752)] .nil)) (.ret [(tI, [(.k 64)]), (tLPIPLIPIPII, [(.k 0)])])))))]
noncomputable def c_laws_markMethodS : List Lf.Fn := [n_laws_markIntS]
noncomputable def f_laws_markMethodS : (List (Int × ((List Int) × (Int × (Int × Int))))) → Int → Option (Int × (List (Int × ((List Int) × (Int × (Int × Int)))))) := tyd [tLPIPLIPIPII, tI] [tI, tLPIPLIPIPII] (fnD (DOf c_laws_markMethodS) s_laws_markMethodS a_laws_markMethodS.L b_laws_markMethodS)
noncomputable def n_laws_markMethodS : Lf.Fn := ⟨s_laws_markMethodS, [tLPIPLIPIPII, tI], [tI, tLPIPLIPIPII], f_laws_markMethodS⟩
noncomputable def l1_laws_markMethodS (v0 : (List (Int × ((List Int) × (Int × (Int × Int)))))) (v16 : Int) (v80 : Int) : Option (Int × (List (Int × ((List Int) × (Int × (Int × Int)))))) := (Jl (DOf c_laws_markMethodS) (irBlk a_laws_markMethodS.L b_laws_markMethodS) 1 [⟨tLPIPLIPIPII, v0⟩, ⟨tI, v16⟩, ⟨tI, v80⟩]).bind (readOuts [tI, tLPIPLIPIPII])
theorem k_laws_markMethodS : compFn Try.prog (sigsOf c_laws_markMethodS) s_laws_markMethodS a_laws_markMethodS = some b_laws_markMethodS := by kernel_rfl
theorem g_laws_markMethodS : Lf.Good Try.prog n_laws_markMethodS := good_of (by simp only [c_laws_markMethodS, List.mem_singleton]; rintro _ rfl; exact g_laws_markIntS) k_laws_markMethodS (by kernel_rfl) ⟨Try.f39, by kernel_rfl, by kernel_rfl, by kernel_rfl⟩ [tLPIPLIPIPII, tI] [tI, tLPIPLIPIPII]
theorem f_laws_markMethodS_eq (x0 : (List (Int × ((List Int) × (Int × (Int × Int)))))) (x1 : Int) : f_laws_markMethodS x0 x1 =
    l1_laws_markMethodS x0 x1 (0 : Int) :=
  (show f_laws_markMethodS x0 x1 = (Jl (DOf c_laws_markMethodS) (irBlk a_laws_markMethodS.L b_laws_markMethodS) 0 [⟨tLPIPLIPIPII, x0⟩, ⟨tI, x1⟩]).bind (readOuts [tI, tLPIPLIPIPII]) by kernel_rfl).trans ((Jstep2 (DKOf_eq c_laws_markMethodS)).trans (by kernel_rfl))
theorem l1_laws_markMethodS_eq (v0 : (List (Int × ((List Int) × (Int × (Int × Int)))))) (v16 : Int) (v80 : Int) : l1_laws_markMethodS v0 v16 v80 =
    bif (decide (v80 < (v0.length : Int))) then
      (at? v0 v80).bind fun _ =>
      (at? v0 v80).bind fun z1 =>
      (at? (v0.set (Int.toNat v80) (v16, z1.2)) v80).bind fun _ =>
      (at? (v0.set (Int.toNat v80) (v16, z1.2)) v80).bind fun z2 =>
      (f_laws_markIntS z2.2.1 (IntKind.wrap .i64 (v16 + (1 : Int)))).bind fun z3 =>
      (at? (v0.set (Int.toNat v80) (v16, z1.2)) v80).bind fun z4 =>
      (at? ((v0.set (Int.toNat v80) (v16, z1.2)).set (Int.toNat v80) (z4.1, (z3.2, z4.2.2))) v80).bind fun _ =>
      (at? ((v0.set (Int.toNat v80) (v16, z1.2)).set (Int.toNat v80) (z4.1, (z3.2, z4.2.2))) v80).bind fun z5 =>
      (at? (((v0.set (Int.toNat v80) (v16, z1.2)).set (Int.toNat v80) (z4.1, (z3.2, z4.2.2))).set (Int.toNat v80) (z5.1, (z5.2.1, (z3.1, z5.2.2.2)))) v80).bind fun _ =>
      (at? (((v0.set (Int.toNat v80) (v16, z1.2)).set (Int.toNat v80) (z4.1, (z3.2, z4.2.2))).set (Int.toNat v80) (z5.1, (z5.2.1, (z3.1, z5.2.2.2)))) v80).bind fun z6 =>
      (at? ((((v0.set (Int.toNat v80) (v16, z1.2)).set (Int.toNat v80) (z4.1, (z3.2, z4.2.2))).set (Int.toNat v80) (z5.1, (z5.2.1, (z3.1, z5.2.2.2)))).set (Int.toNat v80) (z6.1, (z6.2.1, (z6.2.2.1, ((IntKind.wrap .i64 (z3.1 + (1 : Int))), z6.2.2.2.2))))) v80).bind fun _ =>
      (at? ((((v0.set (Int.toNat v80) (v16, z1.2)).set (Int.toNat v80) (z4.1, (z3.2, z4.2.2))).set (Int.toNat v80) (z5.1, (z5.2.1, (z3.1, z5.2.2.2)))).set (Int.toNat v80) (z6.1, (z6.2.1, (z6.2.2.1, ((IntKind.wrap .i64 (z3.1 + (1 : Int))), z6.2.2.2.2))))) v80).bind fun z7 =>
      l1_laws_markMethodS (((((v0.set (Int.toNat v80) (v16, z1.2)).set (Int.toNat v80) (z4.1, (z3.2, z4.2.2))).set (Int.toNat v80) (z5.1, (z5.2.1, (z3.1, z5.2.2.2)))).set (Int.toNat v80) (z6.1, (z6.2.1, (z6.2.2.1, ((IntKind.wrap .i64 (z3.1 + (1 : Int))), z6.2.2.2.2))))).set (Int.toNat v80) (z7.1, (z7.2.1, (z7.2.2.1, (z7.2.2.2.1, (IntKind.wrap .i64 ((IntKind.wrap .i64 (z3.1 + (1 : Int))) + (1 : Int)))))))) (IntKind.wrap .i64 ((IntKind.wrap .i64 ((IntKind.wrap .i64 (z3.1 + (1 : Int))) + (1 : Int))) + (1 : Int))) (IntKind.wrap .i64 (v80 + (1 : Int)))
    else
      some (v16, v0) :=
  (show l1_laws_markMethodS v0 v16 v80 = (Jl (DOf c_laws_markMethodS) (irBlk a_laws_markMethodS.L b_laws_markMethodS) 1 [⟨tLPIPLIPIPII, v0⟩, ⟨tI, v16⟩, ⟨tI, v80⟩]).bind (readOuts [tI, tLPIPLIPIPII]) by kernel_rfl).trans ((Jstep2 (DKOf_eq c_laws_markMethodS)).trans (by kernel_rfl))
/- loop.example/g01989/laws.markAtomS -/
def s_laws_markAtomS : Sig := ⟨104, [.io tLPILI [some mca4df], .v tI], [(tI, [none])]⟩
def a_laws_markAtomS : FAnn := ⟨[⟨[(0, ⟨0, [], .ro mca4df (some 0)⟩), (15, ⟨0, [], .pl 1 false⟩), (16, ⟨0, [], .va⟩), (31, ⟨0, [], .pl 1 false⟩)], [0, 16]⟩,
    ⟨[(0, ⟨0, [], .ro mca4df (some 0)⟩), (15, ⟨0, [], .pl 1 false⟩), (16, ⟨0, [], .va⟩), (31, ⟨0, [], .pl 1 false⟩), (80, ⟨0, [], .va⟩), (95, ⟨0, [], .pl 1 false⟩)], [0, 16, 80]⟩],
  (.seq (.reg [aT]) (.seq (.seq (.reg [aT]) (.block none (.loop 1 (.seq (.seq (.reg [aR, aR, aT, aT]) (.cond none .none .none)) (.seq (.block none (.seq (.reg [aR, aR, aR, aT, aT, aT]) (.seq (.reg [aR, aT, aT]) (.reg [aR, aR, aT, aT, aT, aR, aT, aT])))) (.reg [aR, aT, aT])))))) (.seq (.reg [aR, aT]) .none))),
  [0]⟩
def b_laws_markAtomS : List (Nat × Tree) := [(0, (.ins (.grp [] [.cp 64 (.c (.int .i64 (0)))] .nil) (.ins (.grp [] [.cp 80 (.c (.int .i64 (0)))] .nil) (.jump 1 [0, 16, 80])))),
  (1, (.ins (.grp [] [.cp 96 (.k 80)] (.grp [] [.cp 112 (.k 0)] (.grp [] [.len false 128 (.k 112)] (.grp [] [.bin .lss 144 (.k 96) (.k 128)] .nil)))) (.ite (.k 144) (.ins (.grp [] [.cp 192 (.k 0)] (.grp [] [.cp 208 (.k 80)] (.grp [] [.cp 224 (.k 16)] (.grp [] [.chk tPILI (.k 0) (.k 208)] (.grp [] [.setE 0 (.k 208) 0 [tI] [(.k 224)]] .nil))))) (.ins (.grp [] [.cp 272 (.k 16)] (.grp [] [.bin .add 288 (.k 272) (.c (.int .i64 (1)))] (.grp [] [.cp 16 (.k 288)] .nil))) (.ins (.grp [] [.cp 304 (.k 0)] (.grp [] [.cp 320 (.k 80)] (.grp [] [.chk tPILI (.k 0) (.k 320)] (.grp [] [.idx none [368] 1 (.k 0) (.k 320)] (.grp [] [.cp 384 (.k 16)] (.grp [] [.call 0 [(tLI, [(.k 368)]), (tI, [(.k 384)])] [[400], [412]], .setE 0 (.k 320) 1 [tLI] [(.k 412)]] (.grp [] [.cp 16 (.k 400)] .nil))))))) (.ins (.grp [] [.cp 160 (.k 80)] (.grp [] [.bin .add 176 (.k 160) (.c (.int .i64 (1)))] (.grp [] [.cp 80 (.k 176)] .nil))) (.jump 1 [0, 16, 80]))))) (.ins (.grp [] [.cp 416 (.k 16)] (.grp [] [.cp 64 (.k 416)] .nil)) (.ret [(tI, [(.k 64)]), (tLPILI, [(.k 0)])])))))]
noncomputable def c_laws_markAtomS : List Lf.Fn := [n_laws_markIntS]
noncomputable def f_laws_markAtomS : (List (Int × (List Int))) → Int → Option (Int × (List (Int × (List Int)))) := tyd [tLPILI, tI] [tI, tLPILI] (fnD (DOf c_laws_markAtomS) s_laws_markAtomS a_laws_markAtomS.L b_laws_markAtomS)
noncomputable def n_laws_markAtomS : Lf.Fn := ⟨s_laws_markAtomS, [tLPILI, tI], [tI, tLPILI], f_laws_markAtomS⟩
noncomputable def l1_laws_markAtomS (v0 : (List (Int × (List Int)))) (v16 : Int) (v80 : Int) : Option (Int × (List (Int × (List Int)))) := (Jl (DOf c_laws_markAtomS) (irBlk a_laws_markAtomS.L b_laws_markAtomS) 1 [⟨tLPILI, v0⟩, ⟨tI, v16⟩, ⟨tI, v80⟩]).bind (readOuts [tI, tLPILI])
theorem k_laws_markAtomS : compFn Try.prog (sigsOf c_laws_markAtomS) s_laws_markAtomS a_laws_markAtomS = some b_laws_markAtomS := by kernel_rfl
theorem g_laws_markAtomS : Lf.Good Try.prog n_laws_markAtomS := good_of (by simp only [c_laws_markAtomS, List.mem_singleton]; rintro _ rfl; exact g_laws_markIntS) k_laws_markAtomS (by kernel_rfl) ⟨Try.f104, by kernel_rfl, by kernel_rfl, by kernel_rfl⟩ [tLPILI, tI] [tI, tLPILI]
theorem f_laws_markAtomS_eq (x0 : (List (Int × (List Int)))) (x1 : Int) : f_laws_markAtomS x0 x1 =
    l1_laws_markAtomS x0 x1 (0 : Int) :=
  (show f_laws_markAtomS x0 x1 = (Jl (DOf c_laws_markAtomS) (irBlk a_laws_markAtomS.L b_laws_markAtomS) 0 [⟨tLPILI, x0⟩, ⟨tI, x1⟩]).bind (readOuts [tI, tLPILI]) by kernel_rfl).trans ((Jstep2 (DKOf_eq c_laws_markAtomS)).trans (by kernel_rfl))
theorem l1_laws_markAtomS_eq (v0 : (List (Int × (List Int)))) (v16 : Int) (v80 : Int) : l1_laws_markAtomS v0 v16 v80 =
    bif (decide (v80 < (v0.length : Int))) then
      (at? v0 v80).bind fun _ =>
      (at? v0 v80).bind fun z1 =>
      (at? (v0.set (Int.toNat v80) (v16, z1.2)) v80).bind fun _ =>
      (at? (v0.set (Int.toNat v80) (v16, z1.2)) v80).bind fun z2 =>
      (f_laws_markIntS z2.2 (IntKind.wrap .i64 (v16 + (1 : Int)))).bind fun z3 =>
      (at? (v0.set (Int.toNat v80) (v16, z1.2)) v80).bind fun z4 =>
      l1_laws_markAtomS ((v0.set (Int.toNat v80) (v16, z1.2)).set (Int.toNat v80) (z4.1, z3.2)) z3.1 (IntKind.wrap .i64 (v80 + (1 : Int)))
    else
      some (v16, v0) :=
  (show l1_laws_markAtomS v0 v16 v80 = (Jl (DOf c_laws_markAtomS) (irBlk a_laws_markAtomS.L b_laws_markAtomS) 1 [⟨tLPILI, v0⟩, ⟨tI, v16⟩, ⟨tI, v80⟩]).bind (readOuts [tI, tLPILI]) by kernel_rfl).trans ((Jstep2 (DKOf_eq c_laws_markAtomS)).trans (by kernel_rfl))
/- loop.example/g01989/laws.markQuery -/
def s_laws_markQuery : Sig := ⟨46, [.io tPLILPILI [some .sc, some mca4df], .v tI], [(tI, [none])]⟩
def a_laws_markQuery : FAnn := ⟨[⟨[(0, ⟨0, [], .ro .sc (some 0)⟩), (1, ⟨0, [], .ro mca4df (some 1)⟩), (15, ⟨0, [], .pl 2 true⟩), (16, ⟨0, [], .va⟩), (31, ⟨0, [], .pl 1 false⟩)], [0, 1, 16]⟩],
  (.seq (.reg [aT, aT]) (.seq (.reg [aT, aT, aR, aT, aT]) (.seq (.reg [aT, aT, aR, ⟨.take, 1, []⟩, aT]) (.seq (.reg [aR, aT]) .none)))),
  [32, 33]⟩
def b_laws_markQuery : List (Nat × Tree) := [(0, (.ins (.grp [] [.cp 32 (.k 0), .cp 33 (.k 1)] (.grp [] [.cp 64 (.c (.int .i64 (0)))] .nil)) (.ins (.grp [] [.cp 96 (.k 32)] (.grp [] [.cp 112 (.k 16)] (.grp [] [.call 0 [(tLI, [(.k 96)]), (tI, [(.k 112)])] [[128], [32]]] (.grp [] [.cp 16 (.k 128)] .nil)))) (.ins (.grp [] [.cp 160 (.k 33)] (.grp [] [.cp 176 (.k 16)] (.grp [] [.call 1 [(tLPILI, [(.k 160)]), (tI, [(.k 176)])] [[192], [33]]] (.grp [] [.cp 16 (.k 192)] .nil)))) (.ins (.grp [] [.cp 208 (.k 16)] (.grp [] [.cp 64 (.k 208)] .nil)) (.ret [(tI, [(.k 64)]), (tPLILPILI, [(.k 32), (.k 33)])]))))))]
noncomputable def c_laws_markQuery : List Lf.Fn := [n_laws_markIntS, n_laws_markAtomS]
noncomputable def f_laws_markQuery : ((List Int) × (List (Int × (List Int)))) → Int → Option (Int × ((List Int) × (List (Int × (List Int))))) := tyd [tPLILPILI, tI] [tI, tPLILPILI] (fnD (DOf c_laws_markQuery) s_laws_markQuery a_laws_markQuery.L b_laws_markQuery)
noncomputable def n_laws_markQuery : Lf.Fn := ⟨s_laws_markQuery, [tPLILPILI, tI], [tI, tPLILPILI], f_laws_markQuery⟩
theorem k_laws_markQuery : compFn Try.prog (sigsOf c_laws_markQuery) s_laws_markQuery a_laws_markQuery = some b_laws_markQuery := by kernel_rfl
theorem g_laws_markQuery : Lf.Good Try.prog n_laws_markQuery := good_of (by simp only [c_laws_markQuery, List.mem_cons, List.not_mem_nil, or_false]; rintro _ (rfl | rfl); exact g_laws_markIntS; exact g_laws_markAtomS) k_laws_markQuery (by kernel_rfl) ⟨Try.f46, by kernel_rfl, by kernel_rfl, by kernel_rfl⟩ [tPLILPILI, tI] [tI, tPLILPILI]
theorem f_laws_markQuery_eq (x0 : ((List Int) × (List (Int × (List Int))))) (x1 : Int) : f_laws_markQuery x0 x1 =
    (f_laws_markIntS x0.1 x1).bind fun z1 =>
    (f_laws_markAtomS x0.2 z1.1).bind fun z2 =>
    some (z2.1, (z1.2, z2.2)) :=
  (show f_laws_markQuery x0 x1 = (Jl (DOf c_laws_markQuery) (irBlk a_laws_markQuery.L b_laws_markQuery) 0 [⟨tLI, x0.1⟩, ⟨tLPILI, x0.2⟩, ⟨tI, x1⟩]).bind (readOuts [tI, tPLILPILI]) by kernel_rfl).trans ((Jstep2 (DKOf_eq c_laws_markQuery)).trans (by kernel_rfl))
/- loop.example/g01989/laws.markAccess -/
def s_laws_markAccess : Sig := ⟨41, [.io tPILI [none, some .sc], .v tI], [(tI, [none])]⟩
def a_laws_markAccess : FAnn := ⟨[⟨[(0, ⟨0, [], .va⟩), (1, ⟨0, [], .ro .sc (some 1)⟩), (15, ⟨0, [], .pl 2 true⟩), (16, ⟨0, [], .va⟩), (31, ⟨0, [], .pl 1 false⟩)], [0, 1, 16]⟩],
  (.seq (.reg [aT, aT]) (.seq (.reg [aT, aT, aR, aT, aT]) (.seq (.reg [aR, aT]) .none))),
  [33]⟩
def b_laws_markAccess : List (Nat × Tree) := [(0, (.ins (.grp [] [.cp 32 (.k 0), .cp 33 (.k 1)] (.grp [] [.cp 64 (.c (.int .i64 (0)))] .nil)) (.ins (.grp [] [.cp 96 (.k 33)] (.grp [] [.cp 112 (.k 16)] (.grp [] [.call 0 [(tLI, [(.k 96)]), (tI, [(.k 112)])] [[128], [33]]] (.grp [] [.cp 16 (.k 128)] .nil)))) (.ins (.grp [] [.cp 144 (.k 16)] (.grp [] [.cp 64 (.k 144)] .nil)) (.ret [(tI, [(.k 64)]), (tPILI, [(.c (.int .i64 (0))), (.k 33)])])))))]
noncomputable def c_laws_markAccess : List Lf.Fn := [n_laws_markIntS]
noncomputable def f_laws_markAccess : (Int × (List Int)) → Int → Option (Int × (Int × (List Int))) := tyd [tPILI, tI] [tI, tPILI] (fnD (DOf c_laws_markAccess) s_laws_markAccess a_laws_markAccess.L b_laws_markAccess)
noncomputable def n_laws_markAccess : Lf.Fn := ⟨s_laws_markAccess, [tPILI, tI], [tI, tPILI], f_laws_markAccess⟩
theorem k_laws_markAccess : compFn Try.prog (sigsOf c_laws_markAccess) s_laws_markAccess a_laws_markAccess = some b_laws_markAccess := by kernel_rfl
theorem g_laws_markAccess : Lf.Good Try.prog n_laws_markAccess := good_of (by simp only [c_laws_markAccess, List.mem_singleton]; rintro _ rfl; exact g_laws_markIntS) k_laws_markAccess (by kernel_rfl) ⟨Try.f41, by kernel_rfl, by kernel_rfl, by kernel_rfl⟩ [tPILI, tI] [tI, tPILI]
theorem f_laws_markAccess_eq (x0 : (Int × (List Int))) (x1 : Int) : f_laws_markAccess x0 x1 =
    (f_laws_markIntS x0.2 x1).bind fun z1 =>
    some (z1.1, ((0 : Int), z1.2)) :=
  (show f_laws_markAccess x0 x1 = (Jl (DOf c_laws_markAccess) (irBlk a_laws_markAccess.L b_laws_markAccess) 0 [⟨tI, x0.1⟩, ⟨tLI, x0.2⟩, ⟨tI, x1⟩]).bind (readOuts [tI, tPILI]) by kernel_rfl).trans ((Jstep2 (DKOf_eq c_laws_markAccess)).trans (by kernel_rfl))
/- loop.example/g01989/laws.heldIntS -/
def s_laws_heldIntS : Sig := ⟨48, [.v tLI, .v tI], [(tI, [none])]⟩
def a_laws_heldIntS : FAnn := ⟨[⟨[(0, ⟨0, [], .va⟩), (15, ⟨0, [], .pl 1 false⟩), (16, ⟨0, [], .va⟩), (31, ⟨0, [], .pl 1 false⟩)], [0, 16]⟩,
    ⟨[(0, ⟨0, [], .va⟩), (15, ⟨0, [], .pl 1 false⟩), (16, ⟨0, [], .va⟩), (31, ⟨0, [], .pl 1 false⟩), (80, ⟨0, [], .va⟩), (95, ⟨0, [], .pl 1 false⟩)], [0, 16, 80]⟩],
  (.seq (.reg [aT]) (.seq (.seq (.reg [aT]) (.block none (.loop 1 (.seq (.seq (.reg [aR, aR, aT, aT]) (.cond none .none .none)) (.seq (.block none (.seq (.seq (.reg [aR, aR, aT, aT, aR, aT]) (.cond none (.seq (.reg [aT]) .none) .none)) (.reg [aR, aT, aT]))) (.reg [aR, aT, aT])))))) (.seq (.reg [aR, aT]) .none))),
  []⟩
def b_laws_heldIntS : List (Nat × Tree) := [(0, (.ins (.grp [] [.cp 64 (.c (.int .i64 (0)))] .nil) (.ins (.grp [] [.cp 80 (.c (.int .i64 (0)))] .nil) (.jump 1 [0, 16, 80])))),
  (1, (.ins (.grp [] [.cp 96 (.k 80)] (.grp [] [.cp 112 (.k 0)] (.grp [] [.len false 128 (.k 112)] (.grp [] [.bin .lss 144 (.k 96) (.k 128)] .nil)))) (.ite (.k 144) (.ins (.grp [] [.cp 192 (.k 0)] (.grp [] [.cp 208 (.k 80)] (.grp [] [.idx (some tI) [224] 0 (.k 192) (.k 208)] (.grp [] [.cp 240 (.k 224)] (.grp [] [.cp 256 (.k 16)] (.grp [] [.bin .neq 272 (.k 240) (.k 256)] .nil)))))) (.ite (.k 272) (.ins (.grp [] [.cp 64 (.c (.int .i64 (-1)))] .nil) (.ret [(tI, [(.k 64)])])) (.ins (.grp [] [.cp 288 (.k 16)] (.grp [] [.bin .add 304 (.k 288) (.c (.int .i64 (1)))] (.grp [] [.cp 16 (.k 304)] .nil))) (.ins (.grp [] [.cp 160 (.k 80)] (.grp [] [.bin .add 176 (.k 160) (.c (.int .i64 (1)))] (.grp [] [.cp 80 (.k 176)] .nil))) (.jump 1 [0, 16, 80]))))) (.ins (.grp [] [.cp 320 (.k 16)] (.grp [] [.cp 64 (.k 320)] .nil)) (.ret [(tI, [(.k 64)])])))))]
noncomputable def c_laws_heldIntS : List Lf.Fn := []
noncomputable def f_laws_heldIntS : (List Int) → Int → Option (Int) := tyd [tLI, tI] [tI] (fnD (DOf c_laws_heldIntS) s_laws_heldIntS a_laws_heldIntS.L b_laws_heldIntS)
noncomputable def n_laws_heldIntS : Lf.Fn := ⟨s_laws_heldIntS, [tLI, tI], [tI], f_laws_heldIntS⟩
noncomputable def l1_laws_heldIntS (v0 : (List Int)) (v16 : Int) (v80 : Int) : Option (Int) := (Jl (DOf c_laws_heldIntS) (irBlk a_laws_heldIntS.L b_laws_heldIntS) 1 [⟨tLI, v0⟩, ⟨tI, v16⟩, ⟨tI, v80⟩]).bind (readOuts [tI])
theorem k_laws_heldIntS : compFn Try.prog (sigsOf c_laws_heldIntS) s_laws_heldIntS a_laws_heldIntS = some b_laws_heldIntS := by kernel_rfl
theorem g_laws_heldIntS : Lf.Good Try.prog n_laws_heldIntS := good_of (by intro _ h; simp [c_laws_heldIntS] at h) k_laws_heldIntS (by kernel_rfl) ⟨Try.f48, by kernel_rfl, by kernel_rfl, by kernel_rfl⟩ [tLI, tI] [tI]
theorem f_laws_heldIntS_eq (x0 : (List Int)) (x1 : Int) : f_laws_heldIntS x0 x1 =
    l1_laws_heldIntS x0 x1 (0 : Int) :=
  (show f_laws_heldIntS x0 x1 = (Jl (DOf c_laws_heldIntS) (irBlk a_laws_heldIntS.L b_laws_heldIntS) 0 [⟨tLI, x0⟩, ⟨tI, x1⟩]).bind (readOuts [tI]) by kernel_rfl).trans ((Jstep2 (DKOf_eq c_laws_heldIntS)).trans (by kernel_rfl))
theorem l1_laws_heldIntS_eq (v0 : (List Int)) (v16 : Int) (v80 : Int) : l1_laws_heldIntS v0 v16 v80 =
    bif (decide (v80 < (v0.length : Int))) then
      (at? v0 v80).bind fun z1 =>
      bif (z1 != v16) then
        some (-1 : Int)
      else
        l1_laws_heldIntS v0 (IntKind.wrap .i64 (v16 + (1 : Int))) (IntKind.wrap .i64 (v80 + (1 : Int)))
    else
      some v16 :=
  (show l1_laws_heldIntS v0 v16 v80 = (Jl (DOf c_laws_heldIntS) (irBlk a_laws_heldIntS.L b_laws_heldIntS) 1 [⟨tLI, v0⟩, ⟨tI, v16⟩, ⟨tI, v80⟩]).bind (readOuts [tI]) by kernel_rfl).trans ((Jstep2 (DKOf_eq c_laws_heldIntS)).trans (by kernel_rfl))
/- loop.example/g01989/laws.FnExactAtomsFor -/
def s_laws_FnExactAtomsFor : Sig := ⟨7, [.v tLPIPLIPIPII, .v tPLILPILI, .v tPILI], [(.bool, [none])]⟩
def a_laws_FnExactAtomsFor : FAnn := ⟨[⟨[(0, ⟨0, [], .va⟩), (15, ⟨0, [], .pl 1 false⟩), (16, ⟨0, [], .va⟩), (17, ⟨0, [], .va⟩), (31, ⟨0, [], .pl 2 true⟩), (32, ⟨0, [], .va⟩), (33, ⟨0, [], .va⟩), (47, ⟨0, [], .pl 2 true⟩)], [0, 16, 17, 32, 33]⟩],
  (.seq (.reg [aT, aT, aT]) (.seq (.reg [aT]) (.seq (.reg [aR, aR, aT, aT]) (.seq (.seq (.reg [aR, aT]) (.cond none (.seq (.reg [aT]) .none) .none)) (.seq (.reg [aT, aR, ⟨.take, 1, []⟩, aT]) (.seq (.seq (.reg [aR, aT]) (.cond none (.seq (.reg [aT]) .none) .none)) (.seq (.reg [aT, aR, ⟨.take, 2, []⟩, aT]) (.seq (.seq (.reg [aR, aT]) (.cond none (.seq (.reg [aT]) .none) .none)) (.seq (.reg [aR, ⟨.take, 3, []⟩, aT, ⟨.take, 4, []⟩, aT, ⟨.take, 5, []⟩, ⟨.take, 6, []⟩, aT]) (.seq (.reg [aR, ⟨.take, 3, []⟩, aT]) (.seq (.reg [aT, ⟨.take, 4, []⟩, aT, aT]) (.seq (.reg [aT, ⟨.take, 5, []⟩, aT, aT]) (.seq (.reg [aR, aT, aT, ⟨.take, 7, []⟩, aT]) (.seq (.seq (.reg [aR, aR, ⟨.take, 8, []⟩, aT]) (.cond none (.seq (.reg [aT]) .none) .none)) (.seq (.seq (.reg [aR, aR, ⟨.take, 3, []⟩, ⟨.take, 9, []⟩, aT]) (.cond none (.seq (.reg [aT]) .none) .none)) (.seq (.seq (.reg [aT, aT, ⟨.take, 4, []⟩, ⟨.take, 10, []⟩, aT]) (.cond none (.seq (.reg [aT]) .none) .none)) (.seq (.seq (.reg [aT, aT, ⟨.take, 5, []⟩, ⟨.take, 11, []⟩, aT]) (.cond none (.seq (.reg [aT]) .none) .none)) (.seq (.reg [aT]) (.seq (.reg [aR, aR, ⟨.take, 12, []⟩, aT]) (.seq (.reg [aT, aR, ⟨.take, 13, []⟩, aT]) (.seq (.reg [aT, aR, ⟨.take, 14, []⟩, aT]) (.seq (.seq (.reg [aR, aT, aR, aR, aR, ⟨.take, 8, []⟩, aT, aT]) (.cond none (.seq (.reg [aT]) .none) .none)) (.seq (.reg [aT]) (.seq (.reg [aR, aR, ⟨.take, 15, []⟩, aT]) (.seq (.reg [aT]) (.seq (.reg [aR, aR, ⟨.take, 16, []⟩, aT]) (.seq (.seq (.reg [aR, aT]) (.cond none (.seq (.reg [aT]) .none) .none)) (.seq (.seq (.reg [aR, aR, aT]) (.cond none (.seq (.reg [aT]) .none) .none)) (.seq (.reg [aR, ⟨.take, 3, []⟩, aT, ⟨.take, 4, []⟩, aT, ⟨.take, 5, []⟩, ⟨.take, 7, []⟩, aT]) (.seq (.seq (.reg [aR, aR, ⟨.take, 8, []⟩, aT]) (.cond none (.seq (.reg [aT]) .none) .none)) (.seq (.reg [aT]) (.seq (.reg [aR, aR, ⟨.take, 16, []⟩, aT]) (.seq (.seq (.reg [aR, aT]) (.cond none (.seq (.reg [aT]) .none) .none)) (.seq (.seq (.reg [aR, aR, aT]) (.cond none (.seq (.reg [aT]) .none) .none)) (.seq (.reg [aT]) .none))))))))))))))))))))))))))))))))))),
  []⟩
def b_laws_FnExactAtomsFor : List (Nat × Tree) := [(0, (.ins (.grp [] [.cp 64 (.k 16), .cp 65 (.k 17)] (.grp [] [.cp 80 (.k 32), .cp 81 (.k 33)] (.grp [] [.cp 96 (.c (.bool false))] .nil))) (.ins (.grp [] [.cp 112 (.c (.int .i64 (1048576)))] .nil) (.ins (.grp [] [.cp 272 (.k 0)] (.grp [] [.cp 288 (.k 112)] (.grp [] [.call 0 [(tLPIPLIPIPII, [(.k 272)]), (tI, [(.k 288)])] [[304]]] (.grp [] [.cp 112 (.k 304)] .nil)))) (.ins (.grp [] [.cp 320 (.k 112)] (.grp [] [.bin .lss 336 (.k 320) (.c (.int .i64 (0)))] .nil)) (.ite (.k 336) (.ins (.grp [] [.cp 96 (.c (.bool true))] .nil) (.ret [(.bool, [(.k 96)])])) (.ins (.grp [] [.cp 352 (.k 64), .cp 353 (.k 65)] (.grp [] [.cp 368 (.k 112)] (.grp [] [.call 1 [(tPLILPILI, [(.k 352), (.k 353)]), (tI, [(.k 368)])] [[384]]] (.grp [] [.cp 112 (.k 384)] .nil)))) (.ins (.grp [] [.cp 400 (.k 112)] (.grp [] [.bin .lss 416 (.k 400) (.c (.int .i64 (0)))] .nil)) (.ite (.k 416) (.ins (.grp [] [.cp 96 (.c (.bool true))] .nil) (.ret [(.bool, [(.k 96)])])) (.ins (.grp [] [.cp 432 (.k 80), .cp 433 (.k 81)] (.grp [] [.cp 448 (.k 112)] (.grp [] [.call 2 [(tPILI, [(.k 432), (.k 433)]), (tI, [(.k 448)])] [[464]]] (.grp [] [.cp 112 (.k 464)] .nil)))) (.ins (.grp [] [.cp 480 (.k 112)] (.grp [] [.bin .lss 496 (.k 480) (.c (.int .i64 (0)))] .nil)) (.ite (.k 496) (.ins (.grp [] [.cp 96 (.c (.bool true))] .nil) (.ret [(.bool, [(.k 96)])])) (.ins (.grp [] [.cp 512 (.k 0)] (.grp [] [.call 3 [(tLPIPLIPIPII, [(.k 512)])] [[528]]] (.grp [] [.cp 544 (.k 64), .cp 545 (.k 65)] (.grp [] [.call 4 [(tPLILPILI, [(.k 544), (.k 545)])] [[560, 561]]] (.grp [] [.cp 576 (.k 80), .cp 577 (.k 81)] (.grp [] [.call 5 [(tPILI, [(.k 576), (.k 577)])] [[592, 593]]] (.grp [] [.call 6 [(tLPIPLIPIPII, [(.k 528)]), (tPLILPILI, [(.k 560), (.k 561)]), (tPILI, [(.k 592), (.k 593)])] [[608]]] (.grp [] [.cp 128 (.k 608)] .nil)))))))) (.ins (.grp [] [.cp 624 (.k 0)] (.grp [] [.call 3 [(tLPIPLIPIPII, [(.k 624)])] [[640]]] (.grp [] [.cp 144 (.k 640)] .nil))) (.ins (.grp [] [.cp 656 (.k 64), .cp 657 (.k 65)] (.grp [] [.call 4 [(tPLILPILI, [(.k 656), (.k 657)])] [[672, 673]]] (.grp [] [.cp 160 (.c (.nil tI)), .cp 161 (.c (.nil tPILI))] (.grp [] [.cp 160 (.k 672), .cp 161 (.k 673)] .nil)))) (.ins (.grp [] [.cp 688 (.k 80), .cp 689 (.k 81)] (.grp [] [.call 5 [(tPILI, [(.k 688), (.k 689)])] [[704, 705]]] (.grp [] [.cp 176 (.c (.int .i64 (0))), .cp 177 (.c (.nil tI))] (.grp [] [.cp 176 (.k 704), .cp 177 (.k 705)] .nil)))) (.ins (.grp [] [.cp 720 (.k 144)] (.grp [] [.cp 736 (.k 160), .cp 737 (.k 161)] (.grp [] [.cp 752 (.k 176), .cp 753 (.k 177)] (.grp [] [.call 7 [(tLPIPLIPIPII, [(.k 720)]), (tPLILPILI, [(.k 736), (.k 737)]), (tPILI, [(.k 752), (.k 753)])] [[768]]] (.grp [] [.cp 192 (.k 768)] .nil))))) (.ins (.grp [] [.cp 784 (.k 192)] (.grp [] [.cp 800 (.k 128)] (.grp [] [.call 8 [(tLI, [(.k 784)]), (tLI, [(.k 800)])] [[816]]] (.grp [] [.not 832 (.k 816)] .nil)))) (.ite (.k 832) (.ins (.grp [] [.cp 96 (.c (.bool false))] .nil) (.ret [(.bool, [(.k 96)])])) (.ins (.grp [] [.cp 848 (.k 144)] (.grp [] [.cp 864 (.k 0)] (.grp [] [.call 3 [(tLPIPLIPIPII, [(.k 864)])] [[880]]] (.grp [] [.call 9 [(tLPIPLIPIPII, [(.k 848)]), (tLPIPLIPIPII, [(.k 880)])] [[896]]] (.grp [] [.not 912 (.k 896)] .nil))))) (.ite (.k 912) (.ins (.grp [] [.cp 96 (.c (.bool false))] .nil) (.ret [(.bool, [(.k 96)])])) (.ins (.grp [] [.cp 928 (.k 160), .cp 929 (.k 161)] (.grp [] [.cp 944 (.k 64), .cp 945 (.k 65)] (.grp [] [.call 4 [(tPLILPILI, [(.k 944), (.k 945)])] [[960, 961]]] (.grp [] [.call 10 [(tPLILPILI, [(.k 928), (.k 929)]), (tPLILPILI, [(.k 960), (.k 961)])] [[976]]] (.grp [] [.not 992 (.k 976)] .nil))))) (.ite (.k 992) (.ins (.grp [] [.cp 96 (.c (.bool false))] .nil) (.ret [(.bool, [(.k 96)])])) (.ins (.grp [] [.cp 1008 (.k 176), .cp 1009 (.k 177)] (.grp [] [.cp 1024 (.k 80), .cp 1025 (.k 81)] (.grp [] [.call 5 [(tPILI, [(.k 1024), (.k 1025)])] [[1040, 1041]]] (.grp [] [.call 11 [(tPILI, [(.k 1008), (.k 1009)]), (tPILI, [(.k 1040), (.k 1041)])] [[1056]]] (.grp [] [.not 1072 (.k 1056)] .nil))))) (.ite (.k 1072) (.ins (.grp [] [.cp 96 (.c (.bool false))] .nil) (.ret [(.bool, [(.k 96)])])) (.ins (.grp [] [.cp 208 (.c (.int .i64 (1)))] .nil) (.ins (.grp [] [.cp 1088 (.k 144)] (.grp [] [.cp 1104 (.k 208)] (.grp [] [.call 12 [(tLPIPLIPIPII, [(.k 1088)]), (tI, [(.k 1104)])] [[1120], [144]]] (.grp [] [.cp 208 (.k 1120)] .nil)))) (.ins (.grp [] [.cp 1136 (.k 160), .cp 1137 (.k 161)] (.grp [] [.cp 1152 (.k 208)] (.grp [] [.call 13 [(tPLILPILI, [(.k 1136), (.k 1137)]), (tI, [(.k 1152)])] [[1168], [160, 161]]] (.grp [] [.cp 208 (.k 1168)] .nil)))) (.ins (.grp [] [.cp 1184 (.k 176), .cp 1185 (.k 177)] (.grp [] [.cp 1200 (.k 208)] (.grp [] [.call 14 [(tPILI, [(.k 1184), (.k 1185)]), (tI, [(.k 1200)])] [[1216], [1229, 177]]] (.grp [] [.cp 208 (.k 1216)] .nil)))) (.ins (.grp [] [.cp 1232 (.k 208)] (.grp [] [.bin .lss 1248 (.k 1232) (.c (.int .i64 (0)))] (.grp [] [.cp 1264 (.k 1248)] (.sel 1344 1264 .nil (.c (.bool true)) (.grp [] [.cp 1280 (.k 192)] (.grp [] [.cp 1296 (.k 128)] (.grp [] [.call 8 [(tLI, [(.k 1280)]), (tLI, [(.k 1296)])] [[1312]]] (.grp [] [.not 1328 (.k 1312)] .nil)))) (.k 1328) .nil)))) (.ite (.k 1344) (.ins (.grp [] [.cp 96 (.c (.bool false))] .nil) (.ret [(.bool, [(.k 96)])])) (.ins (.grp [] [.cp 224 (.c (.int .i64 (1)))] .nil) (.ins (.grp [] [.cp 1360 (.k 192)] (.grp [] [.cp 1376 (.k 224)] (.grp [] [.call 15 [(tLI, [(.k 1360)]), (tI, [(.k 1376)])] [[1392], [192]]] (.grp [] [.cp 224 (.k 1392)] .nil)))) (.ins (.grp [] [.cp 240 (.c (.int .i64 (1)))] .nil) (.ins (.grp [] [.cp 1408 (.k 192)] (.grp [] [.cp 1424 (.k 240)] (.grp [] [.call 16 [(tLI, [(.k 1408)]), (tI, [(.k 1424)])] [[1440]]] (.grp [] [.cp 240 (.k 1440)] .nil)))) (.ins (.grp [] [.cp 1456 (.k 240)] (.grp [] [.bin .lss 1472 (.k 1456) (.c (.int .i64 (0)))] .nil)) (.ite (.k 1472) (.ins (.grp [] [.cp 96 (.c (.bool false))] .nil) (.ret [(.bool, [(.k 96)])])) (.ins (.grp [] [.cp 1488 (.k 240)] (.grp [] [.cp 1504 (.k 224)] (.grp [] [.bin .neq 1520 (.k 1488) (.k 1504)] .nil))) (.ite (.k 1520) (.ins (.grp [] [.cp 96 (.c (.bool false))] .nil) (.ret [(.bool, [(.k 96)])])) (.ins (.grp [] [.cp 1536 (.k 0)] (.grp [] [.call 3 [(tLPIPLIPIPII, [(.k 1536)])] [[1552]]] (.grp [] [.cp 1568 (.k 64), .cp 1569 (.k 65)] (.grp [] [.call 4 [(tPLILPILI, [(.k 1568), (.k 1569)])] [[1584, 1585]]] (.grp [] [.cp 1600 (.k 80), .cp 1601 (.k 81)] (.grp [] [.call 5 [(tPILI, [(.k 1600), (.k 1601)])] [[1616, 1617]]] (.grp [] [.call 7 [(tLPIPLIPIPII, [(.k 1552)]), (tPLILPILI, [(.k 1584), (.k 1585)]), (tPILI, [(.k 1616), (.k 1617)])] [[1632]]] (.grp [] [.cp 256 (.k 1632)] .nil)))))))) (.ins (.grp [] [.cp 1648 (.k 256)] (.grp [] [.cp 1664 (.k 128)] (.grp [] [.call 8 [(tLI, [(.k 1648)]), (tLI, [(.k 1664)])] [[1680]]] (.grp [] [.not 1696 (.k 1680)] .nil)))) (.ite (.k 1696) (.ins (.grp [] [.cp 96 (.c (.bool false))] .nil) (.ret [(.bool, [(.k 96)])])) (.ins (.grp [] [.cp 240 (.c (.int .i64 (1)))] .nil) (.ins (.grp [] [.cp 1712 (.k 192)] (.grp [] [.cp 1728 (.k 240)] (.grp [] [.call 16 [(tLI, [(.k 1712)]), (tI, [(.k 1728)])] [[1744]]] (.grp [] [.cp 240 (.k 1744)] .nil)))) (.ins (.grp [] [.cp 1760 (.k 240)] (.grp [] [.bin .lss 1776 (.k 1760) (.c (.int .i64 (0)))] .nil)) (.ite (.k 1776) (.ins (.grp [] [.cp 96 (.c (.bool false))] .nil) (.ret [(.bool, [(.k 96)])])) (.ins (.grp [] [.cp 1792 (.k 240)] (.grp [] [.cp 1808 (.k 224)] (.grp [] [.bin .neq 1824 (.k 1792) (.k 1808)] .nil))) (.ite (.k 1824) (.ins (.grp [] [.cp 96 (.c (.bool false))] .nil) (.ret [(.bool, [(.k 96)])])) (.ins (.grp [] [.cp 96 (.c (.bool true))] .nil) (.ret [(.bool, [(.k 96)])]))))))))))))))))))))))))))))))))))))))))))))))))))]
noncomputable def c_laws_FnExactAtomsFor : List Lf.Fn := [n_laws_szMethodS, n_laws_szQuery, n_laws_szAccess, n_laws_toMethodS, n_laws_toQuery, n_laws_toAccess, n_spec_AtomsFor, n_impl_AtomsFor, n_laws_eqIntS, n_laws_eqMethodS, n_laws_eqQuery, n_laws_eqAccess, n_laws_markMethodS, n_laws_markQuery, n_laws_markAccess, n_laws_markIntS, n_laws_heldIntS]
noncomputable def f_laws_FnExactAtomsFor : (List (Int × ((List Int) × (Int × (Int × Int))))) → ((List Int) × (List (Int × (List Int)))) → (Int × (List Int)) → Option (Bool) := tyd [tLPIPLIPIPII, tPLILPILI, tPILI] [.bool] (fnD (DOf c_laws_FnExactAtomsFor) s_laws_FnExactAtomsFor a_laws_FnExactAtomsFor.L b_laws_FnExactAtomsFor)
noncomputable def n_laws_FnExactAtomsFor : Lf.Fn := ⟨s_laws_FnExactAtomsFor, [tLPIPLIPIPII, tPLILPILI, tPILI], [.bool], f_laws_FnExactAtomsFor⟩
theorem k_laws_FnExactAtomsFor : compFn Try.prog (sigsOf c_laws_FnExactAtomsFor) s_laws_FnExactAtomsFor a_laws_FnExactAtomsFor = some b_laws_FnExactAtomsFor := by kernel_rfl
theorem g_laws_FnExactAtomsFor : Lf.Good Try.prog n_laws_FnExactAtomsFor := good_of (by simp only [c_laws_FnExactAtomsFor, List.mem_cons, List.not_mem_nil, or_false]; rintro _ (rfl | rfl | rfl | rfl | rfl | rfl | rfl | rfl | rfl | rfl | rfl | rfl | rfl | rfl | rfl | rfl | rfl); exact g_laws_szMethodS; exact g_laws_szQuery; exact g_laws_szAccess; exact g_laws_toMethodS; exact g_laws_toQuery; exact g_laws_toAccess; exact g_spec_AtomsFor; exact g_impl_AtomsFor; exact g_laws_eqIntS; exact g_laws_eqMethodS; exact g_laws_eqQuery; exact g_laws_eqAccess; exact g_laws_markMethodS; exact g_laws_markQuery; exact g_laws_markAccess; exact g_laws_markIntS; exact g_laws_heldIntS) k_laws_FnExactAtomsFor (by kernel_rfl) ⟨Try.f7, by kernel_rfl, by kernel_rfl, by kernel_rfl⟩ [tLPIPLIPIPII, tPLILPILI, tPILI] [.bool]
theorem f_laws_FnExactAtomsFor_eq (x0 : (List (Int × ((List Int) × (Int × (Int × Int)))))) (x1 : ((List Int) × (List (Int × (List Int))))) (x2 : (Int × (List Int))) : f_laws_FnExactAtomsFor x0 x1 x2 =
    (f_laws_szMethodS x0 (1048576 : Int)).bind fun z1 =>
    bif (decide (z1 < (0 : Int))) then
      some true
    else
      (f_laws_szQuery x1 z1).bind fun z2 =>
      bif (decide (z2 < (0 : Int))) then
        some true
      else
        (f_laws_szAccess x2 z2).bind fun z3 =>
        bif (decide (z3 < (0 : Int))) then
          some true
        else
          (f_laws_toMethodS x0).bind fun z4 =>
          (f_laws_toQuery x1).bind fun z5 =>
          (f_laws_toAccess x2).bind fun z6 =>
          (f_spec_AtomsFor z4 z5 z6).bind fun z7 =>
          (f_laws_toMethodS x0).bind fun z8 =>
          (f_laws_toQuery x1).bind fun z9 =>
          (f_laws_toAccess x2).bind fun z10 =>
          (f_impl_AtomsFor z8 z9 z10).bind fun z11 =>
          (f_laws_eqIntS z11 z7).bind fun z12 =>
          bif (!z12) then
            some false
          else
            (f_laws_toMethodS x0).bind fun z13 =>
            (f_laws_eqMethodS z8 z13).bind fun z14 =>
            bif (!z14) then
              some false
            else
              (f_laws_toQuery x1).bind fun z15 =>
              (f_laws_eqQuery z9 z15).bind fun z16 =>
              bif (!z16) then
                some false
              else
                (f_laws_toAccess x2).bind fun z17 =>
                (f_laws_eqAccess z10 z17).bind fun z18 =>
                bif (!z18) then
                  some false
                else
                  (f_laws_markMethodS z8 (1 : Int)).bind fun z19 =>
                  (f_laws_markQuery z9 z19.1).bind fun z20 =>
                  (f_laws_markAccess z10 z20.1).bind fun z21 =>
                  (bif (decide (z21.1 < (0 : Int))) then some true else (f_laws_eqIntS z11 z7).bind fun z23 =>
                    some (!z23)).bind fun z22 =>
                  bif z22 then
                    some false
                  else
                    (f_laws_markIntS z11 (1 : Int)).bind fun z24 =>
                    (f_laws_heldIntS z24.2 (1 : Int)).bind fun z25 =>
                    bif (decide (z25 < (0 : Int))) then
                      some false
                    else
                      bif (z25 != z24.1) then
                        some false
                      else
                        (f_laws_toMethodS x0).bind fun z26 =>
                        (f_laws_toQuery x1).bind fun z27 =>
                        (f_laws_toAccess x2).bind fun z28 =>
                        (f_impl_AtomsFor z26 z27 z28).bind fun z29 =>
                        (f_laws_eqIntS z29 z7).bind fun z30 =>
                        bif (!z30) then
                          some false
                        else
                          (f_laws_heldIntS z24.2 (1 : Int)).bind fun z31 =>
                          bif (decide (z31 < (0 : Int))) then
                            some false
                          else
                            bif (z31 != z24.1) then
                              some false
                            else
                              some true :=
  (show f_laws_FnExactAtomsFor x0 x1 x2 = (Jl (DOf c_laws_FnExactAtomsFor) (irBlk a_laws_FnExactAtomsFor.L b_laws_FnExactAtomsFor) 0 [⟨tLPIPLIPIPII, x0⟩, ⟨tLI, x1.1⟩, ⟨tLPILI, x1.2⟩, ⟨tI, x2.1⟩, ⟨tLI, x2.2⟩]).bind (readOuts [.bool]) by kernel_rfl).trans ((Jstep2 (DKOf_eq c_laws_FnExactAtomsFor)).trans (by kernel_rfl))
end Go.Proofs.Ytjffopklnampaaa
