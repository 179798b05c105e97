/- The functions that FnExactCountPages reaches, as functions of data, and their texts, part 1 of 1. -/
import Derived.Test.YtgabgcogeedclaaLd
import Derived.KernelRfl
import Derived.Test.YtgabgcogeedclaaProg
set_option linter.unusedVariables false
set_option linter.unusedSimpArgs false
namespace Go.Proofs.Ytgabgcogeedclaa
open Go.Lf
def aT : Ann := ⟨.take, 0, []⟩
def aR : Ann := ⟨.ref, 0, []⟩
def tI : Ty := .int .i64
/- loop.example/g01989/spec.l1In -/
def s_spec_l1In : Sig := ⟨33, [.v tI, .v tI, .v tI], [(.bool, [none])]⟩
def a_spec_l1In : FAnn := ⟨[⟨[(0, ⟨0, [], .va⟩), (15, ⟨0, [], .pl 1 false⟩), (16, ⟨0, [], .va⟩), (31, ⟨0, [], .pl 1 false⟩), (32, ⟨0, [], .va⟩), (47, ⟨0, [], .pl 1 false⟩)], [0, 16, 32]⟩],
  (.seq (.reg [aT]) (.seq (.reg [aR, aR, aT, aR, aR, aR, aT, aT, aT]) .none)),
  []⟩
def b_spec_l1In : List (Nat × Tree) := [(0, (.ins (.grp [] [.cp 96 (.c (.bool false))] .nil) (.ins (.grp [] [.cp 112 (.k 0)] (.grp [] [.cp 128 (.k 16)] (.grp [] [.bin .geq 144 (.k 112) (.k 128)] (.grp [] [.cp 160 (.k 144)] (.sel 224 160 (.grp [] [.cp 176 (.k 0)] (.grp [] [.cp 192 (.k 32)] (.grp [] [.bin .leq 208 (.k 176) (.k 192)] .nil))) (.k 208) .nil (.c (.bool false)) (.grp [] [.cp 96 (.k 224)] .nil)))))) (.ret [(.bool, [(.k 96)])]))))]
noncomputable def c_spec_l1In : List Lf.Fn := []
noncomputable def f_spec_l1In : Int → Int → Int → Option (Bool) := tyd [tI, tI, tI] [.bool] (fnD (DOf c_spec_l1In) s_spec_l1In a_spec_l1In.L b_spec_l1In)
noncomputable def n_spec_l1In : Lf.Fn := ⟨s_spec_l1In, [tI, tI, tI], [.bool], f_spec_l1In⟩
theorem k_spec_l1In : compFn Try.prog (sigsOf c_spec_l1In) s_spec_l1In a_spec_l1In = some b_spec_l1In := by kernel_rfl
theorem g_spec_l1In : Lf.Good Try.prog n_spec_l1In := good_of (by intro _ h; simp [c_spec_l1In] at h) k_spec_l1In (by kernel_rfl) ⟨Try.f33, by kernel_rfl, by kernel_rfl, by kernel_rfl⟩ [tI, tI, tI] [.bool]
theorem f_spec_l1In_eq (x0 : Int) (x1 : Int) (x2 : Int) : f_spec_l1In x0 x1 x2 =
    (bif (decide (x0 ≥ x1)) then some (decide (x0 ≤ x2)) else some false).bind fun z1 =>
    some z1 :=
  (show f_spec_l1In x0 x1 x2 = (Jl (DOf c_spec_l1In) (irBlk a_spec_l1In.L b_spec_l1In) 0 [⟨tI, x0⟩, ⟨tI, x1⟩, ⟨tI, x2⟩]).bind (readOuts [.bool]) by kernel_rfl).trans ((Jstep2 (DKOf_eq c_spec_l1In)).trans (by kernel_rfl))
/- loop.example/g01989/spec.CountPages -/
def s_spec_CountPages : Sig := ⟨13, [.v tI, .v tI], [(tI, [none])]⟩
def a_spec_CountPages : FAnn := ⟨[⟨[(0, ⟨0, [], .va⟩), (15, ⟨0, [], .pl 1 false⟩), (16, ⟨0, [], .va⟩), (31, ⟨0, [], .pl 1 false⟩)], [0, 16]⟩],
  (.seq (.reg [aT]) (.seq (.seq (.reg [aR, aT, aT, aR, aR, aT, aT, aT]) (.cond none (.seq (.reg [aT]) .none) .none)) (.seq (.seq (.reg [aR, aT]) (.cond none (.seq (.reg [aT]) .none) .none)) (.seq (.reg [aR, aR, aT, aT, aR, aT, aT]) .none)))),
  []⟩
def b_spec_CountPages : List (Nat × Tree) := [(0, (.ins (.grp [] [.cp 64 (.c (.int .i64 (0)))] .nil) (.ins (.grp [] [.cp 80 (.k 16)] (.grp [] [.call 0 [(tI, [(.k 80)]), (tI, [(.c (.int .i64 (1)))]), (tI, [(.c (.int .i64 (9)))])] [[96]]] (.grp [] [.not 112 (.k 96)] (.grp [] [.cp 128 (.k 112)] (.sel 192 128 .nil (.c (.bool true)) (.grp [] [.cp 144 (.k 0)] (.grp [] [.call 0 [(tI, [(.k 144)]), (tI, [(.c (.int .i64 (0)))]), (tI, [(.c (.int .i64 (1000000)))])] [[160]]] (.grp [] [.not 176 (.k 160)] .nil))) (.k 176) .nil))))) (.ite (.k 192) (.ins (.grp [] [.cp 64 (.c (.int .i64 (-1)))] .nil) (.ret [(tI, [(.k 64)])])) (.ins (.grp [] [.cp 208 (.k 0)] (.grp [] [.bin .eql 224 (.k 208) (.c (.int .i64 (0)))] .nil)) (.ite (.k 224) (.ins (.grp [] [.cp 64 (.c (.int .i64 (1)))] .nil) (.ret [(tI, [(.k 64)])])) (.ins (.grp [] [.cp 240 (.k 0)] (.grp [] [.cp 256 (.k 16)] (.grp [] [.bin .add 272 (.k 240) (.k 256)] (.grp [] [.bin .sub 288 (.k 272) (.c (.int .i64 (1)))] (.grp [] [.cp 304 (.k 16)] (.grp [] [.bin .quo 320 (.k 288) (.k 304)] (.grp [] [.cp 64 (.k 320)] .nil))))))) (.ret [(tI, [(.k 64)])]))))))))]
noncomputable def c_spec_CountPages : List Lf.Fn := [n_spec_l1In]
noncomputable def f_spec_CountPages : Int → Int → Option (Int) := tyd [tI, tI] [tI] (fnD (DOf c_spec_CountPages) s_spec_CountPages a_spec_CountPages.L b_spec_CountPages)
noncomputable def n_spec_CountPages : Lf.Fn := ⟨s_spec_CountPages, [tI, tI], [tI], f_spec_CountPages⟩
theorem k_spec_CountPages : compFn Try.prog (sigsOf c_spec_CountPages) s_spec_CountPages a_spec_CountPages = some b_spec_CountPages := by kernel_rfl
theorem g_spec_CountPages : Lf.Good Try.prog n_spec_CountPages := good_of (by simp only [c_spec_CountPages, List.mem_singleton]; rintro _ rfl; exact g_spec_l1In) k_spec_CountPages (by kernel_rfl) ⟨Try.f13, by kernel_rfl, by kernel_rfl, by kernel_rfl⟩ [tI, tI] [tI]
theorem f_spec_CountPages_eq (x0 : Int) (x1 : Int) : f_spec_CountPages x0 x1 =
    (f_spec_l1In x1 (1 : Int) (9 : Int)).bind fun z1 =>
    (bif (!z1) then some true else (f_spec_l1In x0 (0 : Int) (1000000 : Int)).bind fun z3 =>
      some (!z3)).bind fun z2 =>
    bif z2 then
      some (-1 : Int)
    else
      bif (x0 == (0 : Int)) then
        some (1 : Int)
      else
        if x1 = 0 then none else
        some (IntKind.wrap .i64 (Int.tdiv (IntKind.wrap .i64 ((IntKind.wrap .i64 (x0 + x1)) - (1 : Int))) x1)) :=
  (show f_spec_CountPages x0 x1 = (Jl (DOf c_spec_CountPages) (irBlk a_spec_CountPages.L b_spec_CountPages) 0 [⟨tI, x0⟩, ⟨tI, x1⟩]).bind (readOuts [tI]) by kernel_rfl).trans ((Jstep2 (DKOf_eq c_spec_CountPages)).trans (by kernel_rfl))
/- loop.example/g01989/impl.within -/
def s_impl_within : Sig := ⟨34, [.v tI, .v tI, .v tI], [(.bool, [none])]⟩
def a_impl_within : FAnn := ⟨[⟨[(0, ⟨0, [], .va⟩), (15, ⟨0, [], .pl 1 false⟩), (16, ⟨0, [], .va⟩), (31, ⟨0, [], .pl 1 false⟩), (32, ⟨0, [], .va⟩), (47, ⟨0, [], .pl 1 false⟩)], [0, 16, 32]⟩],
  (.seq (.reg [aT]) (.seq (.reg [aR, aR, aT, aR, aR, aR, aT, aT, aT]) .none)),
  []⟩
def b_impl_within : List (Nat × Tree) := [(0, (.ins (.grp [] [.cp 96 (.c (.bool false))] .nil) (.ins (.grp [] [.cp 112 (.k 0)] (.grp [] [.cp 128 (.k 16)] (.grp [] [.bin .geq 144 (.k 112) (.k 128)] (.grp [] [.cp 160 (.k 144)] (.sel 224 160 (.grp [] [.cp 176 (.k 0)] (.grp [] [.cp 192 (.k 32)] (.grp [] [.bin .leq 208 (.k 176) (.k 192)] .nil))) (.k 208) .nil (.c (.bool false)) (.grp [] [.cp 96 (.k 224)] .nil)))))) (.ret [(.bool, [(.k 96)])]))))]
noncomputable def c_impl_within : List Lf.Fn := []
noncomputable def f_impl_within : Int → Int → Int → Option (Bool) := tyd [tI, tI, tI] [.bool] (fnD (DOf c_impl_within) s_impl_within a_impl_within.L b_impl_within)
noncomputable def n_impl_within : Lf.Fn := ⟨s_impl_within, [tI, tI, tI], [.bool], f_impl_within⟩
theorem k_impl_within : compFn Try.prog (sigsOf c_impl_within) s_impl_within a_impl_within = some b_impl_within := by kernel_rfl
theorem g_impl_within : Lf.Good Try.prog n_impl_within := good_of (by intro _ h; simp [c_impl_within] at h) k_impl_within (by kernel_rfl) ⟨Try.f34, by kernel_rfl, by kernel_rfl, by kernel_rfl⟩ [tI, tI, tI] [.bool]
theorem f_impl_within_eq (x0 : Int) (x1 : Int) (x2 : Int) : f_impl_within x0 x1 x2 =
    (bif (decide (x0 ≥ x1)) then some (decide (x0 ≤ x2)) else some false).bind fun z1 =>
    some z1 :=
  (show f_impl_within x0 x1 x2 = (Jl (DOf c_impl_within) (irBlk a_impl_within.L b_impl_within) 0 [⟨tI, x0⟩, ⟨tI, x1⟩, ⟨tI, x2⟩]).bind (readOuts [.bool]) by kernel_rfl).trans ((Jstep2 (DKOf_eq c_impl_within)).trans (by kernel_rfl))
/- loop.example/g01989/impl.isPage -/
def s_impl_isPage : Sig := ⟨35, [.v tI], [(.bool, [none])]⟩
def a_impl_isPage : FAnn := ⟨[⟨[(0, ⟨0, [], .va⟩), (15, ⟨0, [], .pl 1 false⟩)], [0]⟩],
  (.seq (.reg [aT]) (.seq (.reg [aR, aT, aT]) .none)),
  []⟩
def b_impl_isPage : List (Nat × Tree) := [(0, (.ins (.grp [] [.cp 32 (.c (.bool false))] .nil) (.ins (.grp [] [.cp 48 (.k 0)] (.grp [] [.call 0 [(tI, [(.k 48)]), (tI, [(.c (.int .i64 (1)))]), (tI, [(.c (.int .i64 (9)))])] [[64]]] (.grp [] [.cp 32 (.k 64)] .nil))) (.ret [(.bool, [(.k 32)])]))))]
noncomputable def c_impl_isPage : List Lf.Fn := [n_impl_within]
noncomputable def f_impl_isPage : Int → Option (Bool) := tyd [tI] [.bool] (fnD (DOf c_impl_isPage) s_impl_isPage a_impl_isPage.L b_impl_isPage)
noncomputable def n_impl_isPage : Lf.Fn := ⟨s_impl_isPage, [tI], [.bool], f_impl_isPage⟩
theorem k_impl_isPage : compFn Try.prog (sigsOf c_impl_isPage) s_impl_isPage a_impl_isPage = some b_impl_isPage := by kernel_rfl
theorem g_impl_isPage : Lf.Good Try.prog n_impl_isPage := good_of (by simp only [c_impl_isPage, List.mem_singleton]; rintro _ rfl; exact g_impl_within) k_impl_isPage (by kernel_rfl) ⟨Try.f35, by kernel_rfl, by kernel_rfl, by kernel_rfl⟩ [tI] [.bool]
theorem f_impl_isPage_eq (x0 : Int) : f_impl_isPage x0 =
    (f_impl_within x0 (1 : Int) (9 : Int)).bind fun z1 =>
    some z1 :=
  (show f_impl_isPage x0 = (Jl (DOf c_impl_isPage) (irBlk a_impl_isPage.L b_impl_isPage) 0 [⟨tI, x0⟩]).bind (readOuts [.bool]) by kernel_rfl).trans ((Jstep2 (DKOf_eq c_impl_isPage)).trans (by kernel_rfl))
/- loop.example/g01989/impl.CountPages -/
def s_impl_CountPages : Sig := ⟨14, [.v tI, .v tI], [(tI, [none])]⟩
def a_impl_CountPages : FAnn := ⟨[⟨[(0, ⟨0, [], .va⟩), (15, ⟨0, [], .pl 1 false⟩), (16, ⟨0, [], .va⟩), (31, ⟨0, [], .pl 1 false⟩)], [0, 16]⟩],
  (.seq (.reg [aT]) (.seq (.seq (.reg [aR, aT, aT, aR, aR, ⟨.take, 1, []⟩, aT, aT]) (.cond none (.seq (.reg [aT]) .none) .none)) (.seq (.reg [aR, aR, aT, aT, aR, aT, aT, aT]) .none))),
  []⟩
def b_impl_CountPages : List (Nat × Tree) := [(0, (.ins (.grp [] [.cp 64 (.c (.int .i64 (0)))] .nil) (.ins (.grp [] [.cp 80 (.k 16)] (.grp [] [.call 0 [(tI, [(.k 80)])] [[96]]] (.grp [] [.not 112 (.k 96)] (.grp [] [.cp 128 (.k 112)] (.sel 192 128 .nil (.c (.bool true)) (.grp [] [.cp 144 (.k 0)] (.grp [] [.call 1 [(tI, [(.k 144)]), (tI, [(.c (.int .i64 (0)))]), (tI, [(.c (.int .i64 (1000000)))])] [[160]]] (.grp [] [.not 176 (.k 160)] .nil))) (.k 176) .nil))))) (.ite (.k 192) (.ins (.grp [] [.cp 64 (.c (.int .i64 (-1)))] .nil) (.ret [(tI, [(.k 64)])])) (.ins (.grp [] [.cp 208 (.k 0)] (.grp [] [.cp 224 (.k 16)] (.grp [] [.bin .add 240 (.k 208) (.k 224)] (.grp [] [.bin .sub 256 (.k 240) (.c (.int .i64 (1)))] (.grp [] [.cp 272 (.k 16)] (.grp [] [.bin .quo 288 (.k 256) (.k 272)] (.grp [] [.mnx true 304 (.c (.int .i64 (1))) (.k 288)] (.grp [] [.cp 64 (.k 304)] .nil)))))))) (.ret [(tI, [(.k 64)])]))))))]
noncomputable def c_impl_CountPages : List Lf.Fn := [n_impl_isPage, n_impl_within]
noncomputable def f_impl_CountPages : Int → Int → Option (Int) := tyd [tI, tI] [tI] (fnD (DOf c_impl_CountPages) s_impl_CountPages a_impl_CountPages.L b_impl_CountPages)
noncomputable def n_impl_CountPages : Lf.Fn := ⟨s_impl_CountPages, [tI, tI], [tI], f_impl_CountPages⟩
theorem k_impl_CountPages : compFn Try.prog (sigsOf c_impl_CountPages) s_impl_CountPages a_impl_CountPages = some b_impl_CountPages := by kernel_rfl
theorem g_impl_CountPages : Lf.Good Try.prog n_impl_CountPages := good_of (by simp only [c_impl_CountPages, List.mem_cons, List.not_mem_nil, or_false]; rintro _ (rfl | rfl); exact g_impl_isPage; exact g_impl_within) k_impl_CountPages (by kernel_rfl) ⟨Try.f14, by kernel_rfl, by kernel_rfl, by kernel_rfl⟩ [tI, tI] [tI]
theorem f_impl_CountPages_eq (x0 : Int) (x1 : Int) : f_impl_CountPages x0 x1 =
    (f_impl_isPage x1).bind fun z1 =>
    (bif (!z1) then some true else (f_impl_within x0 (0 : Int) (1000000 : Int)).bind fun z3 =>
      some (!z3)).bind fun z2 =>
    bif z2 then
      some (-1 : Int)
    else
      if x1 = 0 then none else
      some (if (1 : Int) < (IntKind.wrap .i64 (Int.tdiv (IntKind.wrap .i64 ((IntKind.wrap .i64 (x0 + x1)) - (1 : Int))) x1)) then (IntKind.wrap .i64 (Int.tdiv (IntKind.wrap .i64 ((IntKind.wrap .i64 (x0 + x1)) - (1 : Int))) x1)) else (1 : Int)) :=
  (show f_impl_CountPages x0 x1 = (Jl (DOf c_impl_CountPages) (irBlk a_impl_CountPages.L b_impl_CountPages) 0 [⟨tI, x0⟩, ⟨tI, x1⟩]).bind (readOuts [tI]) by kernel_rfl).trans ((Jstep2 (DKOf_eq c_impl_CountPages)).trans (by kernel_rfl))
/- loop.example/g01989/laws.FnExactCountPages -/
def s_laws_FnExactCountPages : Sig := ⟨4, [.v tI, .v tI], [(.bool, [none])]⟩
def a_laws_FnExactCountPages : FAnn := ⟨[⟨[(0, ⟨0, [], .va⟩), (15, ⟨0, [], .pl 1 false⟩), (16, ⟨0, [], .va⟩), (31, ⟨0, [], .pl 1 false⟩)], [0, 16]⟩],
  (.seq (.reg [aT]) (.seq (.reg [aR, aR, aT, aT]) (.seq (.reg [aR, aR, ⟨.take, 1, []⟩, aT]) (.seq (.seq (.reg [aR, aR, aT]) (.cond none (.seq (.reg [aT]) .none) .none)) (.seq (.reg [aT]) .none))))),
  []⟩
def b_laws_FnExactCountPages : List (Nat × Tree) := [(0, (.ins (.grp [] [.cp 64 (.c (.bool false))] .nil) (.ins (.grp [] [.cp 112 (.k 0)] (.grp [] [.cp 128 (.k 16)] (.grp [] [.call 0 [(tI, [(.k 112)]), (tI, [(.k 128)])] [[144]]] (.grp [] [.cp 80 (.k 144)] .nil)))) (.ins (.grp [] [.cp 160 (.k 0)] (.grp [] [.cp 176 (.k 16)] (.grp [] [.call 1 [(tI, [(.k 160)]), (tI, [(.k 176)])] [[192]]] (.grp [] [.cp 96 (.k 192)] .nil)))) (.ins (.grp [] [.cp 208 (.k 96)] (.grp [] [.cp 224 (.k 80)] (.grp [] [.bin .neq 240 (.k 208) (.k 224)] .nil))) (.ite (.k 240) (.ins (.grp [] [.cp 64 (.c (.bool false))] .nil) (.ret [(.bool, [(.k 64)])])) (.ins (.grp [] [.cp 64 (.c (.bool true))] .nil) (.ret [(.bool, [(.k 64)])]))))))))]
noncomputable def c_laws_FnExactCountPages : List Lf.Fn := [n_spec_CountPages, n_impl_CountPages]
noncomputable def f_laws_FnExactCountPages : Int → Int → Option (Bool) := tyd [tI, tI] [.bool] (fnD (DOf c_laws_FnExactCountPages) s_laws_FnExactCountPages a_laws_FnExactCountPages.L b_laws_FnExactCountPages)
noncomputable def n_laws_FnExactCountPages : Lf.Fn := ⟨s_laws_FnExactCountPages, [tI, tI], [.bool], f_laws_FnExactCountPages⟩
theorem k_laws_FnExactCountPages : compFn Try.prog (sigsOf c_laws_FnExactCountPages) s_laws_FnExactCountPages a_laws_FnExactCountPages = some b_laws_FnExactCountPages := by kernel_rfl
theorem g_laws_FnExactCountPages : Lf.Good Try.prog n_laws_FnExactCountPages := good_of (by simp only [c_laws_FnExactCountPages, List.mem_cons, List.not_mem_nil, or_false]; rintro _ (rfl | rfl); exact g_spec_CountPages; exact g_impl_CountPages) k_laws_FnExactCountPages (by kernel_rfl) ⟨Try.f4, by kernel_rfl, by kernel_rfl, by kernel_rfl⟩ [tI, tI] [.bool]
theorem f_laws_FnExactCountPages_eq (x0 : Int) (x1 : Int) : f_laws_FnExactCountPages x0 x1 =
    (f_spec_CountPages x0 x1).bind fun z1 =>
    (f_impl_CountPages x0 x1).bind fun z2 =>
    bif (z2 != z1) then
      some false
    else
      some true :=
  (show f_laws_FnExactCountPages x0 x1 = (Jl (DOf c_laws_FnExactCountPages) (irBlk a_laws_FnExactCountPages.L b_laws_FnExactCountPages) 0 [⟨tI, x0⟩, ⟨tI, x1⟩]).bind (readOuts [.bool]) by kernel_rfl).trans ((Jstep2 (DKOf_eq c_laws_FnExactCountPages)).trans (by kernel_rfl))
end Go.Proofs.Ytgabgcogeedclaa
