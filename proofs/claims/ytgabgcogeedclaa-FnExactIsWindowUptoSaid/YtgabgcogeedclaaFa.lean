/- The functions that FnExactIsWindow reaches, as functions of data, and their texts, part 1 of 1. -/
import Derived.Test.YtgabgcogeedclaaLd
import Derived.KernelRfl
import Derived.Test.YtgabgcogeedclaaProg
set_option linter.unusedVariables false
namespace Go.Proofs.Ytgabgcogeedclaa
open Go.Lf
def aT : Ann := ⟨.take, 0, []⟩
def aR : Ann := ⟨.ref, 0, []⟩
def t0 : Ty := .int .i64
def t1 : Ty := .pair t0 t0
/- loop.example/g01989/laws.toWindow -/
def s_laws_toWindow : Sig := ⟨11, [.v t1], [(t1, [none, none])]⟩
def a_laws_toWindow : FAnn := ⟨[⟨[(0, ⟨0, [], .va⟩), (1, ⟨0, [], .va⟩), (15, ⟨0, [], .pl 2 true⟩)], [0, 1]⟩],
  (.seq (.reg [aT, aT]) (.seq (.reg [aT]) (.seq (.reg [aT, aT, aT, aT]) (.seq (.reg [aT, aT, aT, aT]) (.seq (.reg [aT, aT]) .none))))),
  []⟩
def b_laws_toWindow : List (Nat × Tree) := [(0, (.ins (.grp [] [.cp 16 (.k 0), .cp 17 (.k 1)] (.grp [] [.cp 32 (.c (.int .i64 (0))), .cp 33 (.c (.int .i64 (0)))] .nil)) (.ins (.grp [] [.cp 48 (.c (.int .i64 (0))), .cp 49 (.c (.int .i64 (0)))] .nil) (.ins (.grp [] [.cp 80 (.k 16)] (.grp [] [.cp 48 (.k 80)] .nil)) (.ins (.grp [] [.cp 128 (.k 17)] (.grp [] [.cp 49 (.k 128)] .nil)) (.ins (.grp [] [.cp 160 (.k 48), .cp 161 (.k 49)] (.grp [] [.cp 32 (.k 160), .cp 33 (.k 161)] .nil)) (.ret [(t1, [(.k 32), (.k 33)])])))))))]
noncomputable def c_laws_toWindow : List Lf.Fn := []
noncomputable def f_laws_toWindow : (Int × Int) → Option ((Int × Int)) := tyd [t1] [t1] (fnD (DOf c_laws_toWindow) s_laws_toWindow a_laws_toWindow.L b_laws_toWindow)
noncomputable def n_laws_toWindow : Lf.Fn := ⟨s_laws_toWindow, [t1], [t1], f_laws_toWindow⟩
theorem k_laws_toWindow : compFn Try.prog (sigsOf c_laws_toWindow) s_laws_toWindow a_laws_toWindow = some b_laws_toWindow := by kernel_rfl
theorem g_laws_toWindow : Lf.Good Try.prog n_laws_toWindow := good_of (by intro _ h; simp [c_laws_toWindow] at h) k_laws_toWindow (by kernel_rfl) ⟨Try.f11, by kernel_rfl, by kernel_rfl, by kernel_rfl⟩ [t1] [t1]
theorem f_laws_toWindow_eq (x0 : (Int × Int)) : f_laws_toWindow x0 =
    some x0 :=
  (show f_laws_toWindow x0 = (Jl (DOf c_laws_toWindow) (irBlk a_laws_toWindow.L b_laws_toWindow) 0 [⟨t0, x0.1⟩, ⟨t0, x0.2⟩]).bind (readOuts [t1]) by kernel_rfl).trans ((Jstep2 (DKOf_eq c_laws_toWindow)).trans (by kernel_rfl))
/- loop.example/g01989/spec.l1In -/
def s_spec_l1In : Sig := ⟨33, [.v t0, .v t0, .v t0], [(.bool, [none])]⟩
def a_spec_l1In : FAnn := ⟨[⟨[(0, ⟨0, [], .va⟩), (15, ⟨0, [], .pl 1 false⟩), (16, ⟨0, [], .va⟩), (31, ⟨0, [], .pl 1 false⟩), (32, ⟨0, [], .va⟩), (47, ⟨0, [], .pl 1 false⟩)], [0, 16, 32]⟩],
  (.seq (.reg [aT]) (.seq (.reg [aR, aR, aT, aR, aR, aR, aT, aT, aT]) .none)),
  []⟩
def b_spec_l1In : List (Nat × Tree) := [(0, (.ins (.grp [] [.cp 96 (.c (.bool false))] .nil) (.ins (.grp [] [.cp 112 (.k 0)] (.grp [] [.cp 128 (.k 16)] (.grp [] [.bin .geq 144 (.k 112) (.k 128)] (.grp [] [.cp 160 (.k 144)] (.sel 224 160 (.grp [] [.cp 176 (.k 0)] (.grp [] [.cp 192 (.k 32)] (.grp [] [.bin .leq 208 (.k 176) (.k 192)] .nil))) (.k 208) .nil (.c (.bool false)) (.grp [] [.cp 96 (.k 224)] .nil)))))) (.ret [(.bool, [(.k 96)])]))))]
noncomputable def c_spec_l1In : List Lf.Fn := []
noncomputable def f_spec_l1In : Int → Int → Int → Option (Bool) := tyd [t0, t0, t0] [.bool] (fnD (DOf c_spec_l1In) s_spec_l1In a_spec_l1In.L b_spec_l1In)
noncomputable def n_spec_l1In : Lf.Fn := ⟨s_spec_l1In, [t0, t0, t0], [.bool], f_spec_l1In⟩
theorem k_spec_l1In : compFn Try.prog (sigsOf c_spec_l1In) s_spec_l1In a_spec_l1In = some b_spec_l1In := by kernel_rfl
theorem g_spec_l1In : Lf.Good Try.prog n_spec_l1In := good_of (by intro _ h; simp [c_spec_l1In] at h) k_spec_l1In (by kernel_rfl) ⟨Try.f33, by kernel_rfl, by kernel_rfl, by kernel_rfl⟩ [t0, t0, t0] [.bool]
theorem f_spec_l1In_eq (x0 : Int) (x1 : Int) (x2 : Int) : f_spec_l1In x0 x1 x2 =
    (bif (decide (x0 ≥ x1)) then some (decide (x0 ≤ x2)) else some false).bind fun z1 =>
    some z1 :=
  (show f_spec_l1In x0 x1 x2 = (Jl (DOf c_spec_l1In) (irBlk a_spec_l1In.L b_spec_l1In) 0 [⟨t0, x0⟩, ⟨t0, x1⟩, ⟨t0, x2⟩]).bind (readOuts [.bool]) by kernel_rfl).trans ((Jstep2 (DKOf_eq c_spec_l1In)).trans (by kernel_rfl))
/- loop.example/g01989/spec.IsWindow -/
def s_spec_IsWindow : Sig := ⟨10, [.v t1], [(.bool, [none])]⟩
def a_spec_IsWindow : FAnn := ⟨[⟨[(0, ⟨0, [], .va⟩), (1, ⟨0, [], .va⟩), (15, ⟨0, [], .pl 2 true⟩)], [0, 1]⟩],
  (.seq (.reg [aT, aT]) (.seq (.reg [aT, aT, aT, aR, aT, aT, aT, aT, aT]) .none)),
  []⟩
def b_spec_IsWindow : List (Nat × Tree) := [(0, (.ins (.grp [] [.cp 16 (.k 0), .cp 17 (.k 1)] (.grp [] [.cp 32 (.c (.bool false))] .nil)) (.ins (.grp [] [.cp 64 (.k 16)] (.grp [] [.call 0 [(t0, [(.k 64)]), (t0, [(.c (.int .i64 (1)))]), (t0, [(.c (.int .i64 (100)))])] [[80]]] (.grp [] [.cp 96 (.k 80)] (.sel 160 96 (.grp [] [.cp 128 (.k 17)] (.grp [] [.call 0 [(t0, [(.k 128)]), (t0, [(.c (.int .i64 (1)))]), (t0, [(.c (.int .i64 (99)))])] [[144]]] .nil)) (.k 144) .nil (.c (.bool false)) (.grp [] [.cp 32 (.k 160)] .nil))))) (.ret [(.bool, [(.k 32)])]))))]
noncomputable def c_spec_IsWindow : List Lf.Fn := [n_spec_l1In]
noncomputable def f_spec_IsWindow : (Int × Int) → Option (Bool) := tyd [t1] [.bool] (fnD (DOf c_spec_IsWindow) s_spec_IsWindow a_spec_IsWindow.L b_spec_IsWindow)
noncomputable def n_spec_IsWindow : Lf.Fn := ⟨s_spec_IsWindow, [t1], [.bool], f_spec_IsWindow⟩
theorem k_spec_IsWindow : compFn Try.prog (sigsOf c_spec_IsWindow) s_spec_IsWindow a_spec_IsWindow = some b_spec_IsWindow := by kernel_rfl
theorem g_spec_IsWindow : Lf.Good Try.prog n_spec_IsWindow := good_of (by simp only [c_spec_IsWindow, List.mem_singleton]; rintro _ rfl; exact g_spec_l1In) k_spec_IsWindow (by kernel_rfl) ⟨Try.f10, by kernel_rfl, by kernel_rfl, by kernel_rfl⟩ [t1] [.bool]
theorem f_spec_IsWindow_eq (x0 : (Int × Int)) : f_spec_IsWindow x0 =
    (f_spec_l1In x0.1 (1 : Int) (100 : Int)).bind fun z1 =>
    (bif z1 then (f_spec_l1In x0.2 (1 : Int) (99 : Int)).bind fun z3 =>
      some z3 else some false).bind fun z2 =>
    some z2 :=
  (show f_spec_IsWindow x0 = (Jl (DOf c_spec_IsWindow) (irBlk a_spec_IsWindow.L b_spec_IsWindow) 0 [⟨t0, x0.1⟩, ⟨t0, x0.2⟩]).bind (readOuts [.bool]) by kernel_rfl).trans ((Jstep2 (DKOf_eq c_spec_IsWindow)).trans (by kernel_rfl))
/- loop.example/g01989/impl.within -/
def s_impl_within : Sig := ⟨34, [.v t0, .v t0, .v t0], [(.bool, [none])]⟩
def a_impl_within : FAnn := ⟨[⟨[(0, ⟨0, [], .va⟩), (15, ⟨0, [], .pl 1 false⟩), (16, ⟨0, [], .va⟩), (31, ⟨0, [], .pl 1 false⟩), (32, ⟨0, [], .va⟩), (47, ⟨0, [], .pl 1 false⟩)], [0, 16, 32]⟩],
  (.seq (.reg [aT]) (.seq (.reg [aR, aR, aT, aR, aR, aR, aT, aT, aT]) .none)),
  []⟩
def b_impl_within : List (Nat × Tree) := [(0, (.ins (.grp [] [.cp 96 (.c (.bool false))] .nil) (.ins (.grp [] [.cp 112 (.k 0)] (.grp [] [.cp 128 (.k 16)] (.grp [] [.bin .geq 144 (.k 112) (.k 128)] (.grp [] [.cp 160 (.k 144)] (.sel 224 160 (.grp [] [.cp 176 (.k 0)] (.grp [] [.cp 192 (.k 32)] (.grp [] [.bin .leq 208 (.k 176) (.k 192)] .nil))) (.k 208) .nil (.c (.bool false)) (.grp [] [.cp 96 (.k 224)] .nil)))))) (.ret [(.bool, [(.k 96)])]))))]
noncomputable def c_impl_within : List Lf.Fn := []
noncomputable def f_impl_within : Int → Int → Int → Option (Bool) := tyd [t0, t0, t0] [.bool] (fnD (DOf c_impl_within) s_impl_within a_impl_within.L b_impl_within)
noncomputable def n_impl_within : Lf.Fn := ⟨s_impl_within, [t0, t0, t0], [.bool], f_impl_within⟩
theorem k_impl_within : compFn Try.prog (sigsOf c_impl_within) s_impl_within a_impl_within = some b_impl_within := by kernel_rfl
theorem g_impl_within : Lf.Good Try.prog n_impl_within := good_of (by intro _ h; simp [c_impl_within] at h) k_impl_within (by kernel_rfl) ⟨Try.f34, by kernel_rfl, by kernel_rfl, by kernel_rfl⟩ [t0, t0, t0] [.bool]
theorem f_impl_within_eq (x0 : Int) (x1 : Int) (x2 : Int) : f_impl_within x0 x1 x2 =
    (bif (decide (x0 ≥ x1)) then some (decide (x0 ≤ x2)) else some false).bind fun z1 =>
    some z1 :=
  (show f_impl_within x0 x1 x2 = (Jl (DOf c_impl_within) (irBlk a_impl_within.L b_impl_within) 0 [⟨t0, x0⟩, ⟨t0, x1⟩, ⟨t0, x2⟩]).bind (readOuts [.bool]) by kernel_rfl).trans ((Jstep2 (DKOf_eq c_impl_within)).trans (by kernel_rfl))
/- loop.example/g01989/impl.IsWindow -/
def s_impl_IsWindow : Sig := ⟨12, [.v t1], [(.bool, [none])]⟩
def a_impl_IsWindow : FAnn := ⟨[⟨[(0, ⟨0, [], .va⟩), (1, ⟨0, [], .va⟩), (15, ⟨0, [], .pl 2 true⟩)], [0, 1]⟩],
  (.seq (.reg [aT, aT]) (.seq (.reg [aT, aT, aT, aR, aT, aT, aT, aT, aT]) .none)),
  []⟩
def b_impl_IsWindow : List (Nat × Tree) := [(0, (.ins (.grp [] [.cp 16 (.k 0), .cp 17 (.k 1)] (.grp [] [.cp 32 (.c (.bool false))] .nil)) (.ins (.grp [] [.cp 64 (.k 16)] (.grp [] [.call 0 [(t0, [(.k 64)]), (t0, [(.c (.int .i64 (1)))]), (t0, [(.c (.int .i64 (100)))])] [[80]]] (.grp [] [.cp 96 (.k 80)] (.sel 160 96 (.grp [] [.cp 128 (.k 17)] (.grp [] [.call 0 [(t0, [(.k 128)]), (t0, [(.c (.int .i64 (1)))]), (t0, [(.c (.int .i64 (99)))])] [[144]]] .nil)) (.k 144) .nil (.c (.bool false)) (.grp [] [.cp 32 (.k 160)] .nil))))) (.ret [(.bool, [(.k 32)])]))))]
noncomputable def c_impl_IsWindow : List Lf.Fn := [n_impl_within]
noncomputable def f_impl_IsWindow : (Int × Int) → Option (Bool) := tyd [t1] [.bool] (fnD (DOf c_impl_IsWindow) s_impl_IsWindow a_impl_IsWindow.L b_impl_IsWindow)
noncomputable def n_impl_IsWindow : Lf.Fn := ⟨s_impl_IsWindow, [t1], [.bool], f_impl_IsWindow⟩
theorem k_impl_IsWindow : compFn Try.prog (sigsOf c_impl_IsWindow) s_impl_IsWindow a_impl_IsWindow = some b_impl_IsWindow := by kernel_rfl
theorem g_impl_IsWindow : Lf.Good Try.prog n_impl_IsWindow := good_of (by simp only [c_impl_IsWindow, List.mem_singleton]; rintro _ rfl; exact g_impl_within) k_impl_IsWindow (by kernel_rfl) ⟨Try.f12, by kernel_rfl, by kernel_rfl, by kernel_rfl⟩ [t1] [.bool]
theorem f_impl_IsWindow_eq (x0 : (Int × Int)) : f_impl_IsWindow x0 =
    (f_impl_within x0.1 (1 : Int) (100 : Int)).bind fun z1 =>
    (bif z1 then (f_impl_within x0.2 (1 : Int) (99 : Int)).bind fun z3 =>
      some z3 else some false).bind fun z2 =>
    some z2 :=
  (show f_impl_IsWindow x0 = (Jl (DOf c_impl_IsWindow) (irBlk a_impl_IsWindow.L b_impl_IsWindow) 0 [⟨t0, x0.1⟩, ⟨t0, x0.2⟩]).bind (readOuts [.bool]) by kernel_rfl).trans ((Jstep2 (DKOf_eq c_impl_IsWindow)).trans (by kernel_rfl))
/- loop.example/g01989/laws.FnExactIsWindow -/
def s_laws_FnExactIsWindow : Sig := ⟨3, [.v t1], [(.bool, [none])]⟩
def a_laws_FnExactIsWindow : FAnn := ⟨[⟨[(0, ⟨0, [], .va⟩), (1, ⟨0, [], .va⟩), (15, ⟨0, [], .pl 2 true⟩)], [0, 1]⟩],
  (.seq (.reg [aT, aT]) (.seq (.reg [aT, aT, ⟨.take, 1, []⟩, aT]) (.seq (.reg [aT, aT, ⟨.take, 2, []⟩, aT]) (.seq (.seq (.reg [aR, aR, aT]) (.cond none (.seq (.reg [aT]) .none) .none)) (.seq (.reg [aT]) .none))))),
  []⟩
def b_laws_FnExactIsWindow : List (Nat × Tree) := [(0, (.ins (.grp [] [.cp 16 (.k 0), .cp 17 (.k 1)] (.grp [] [.cp 32 (.c (.bool false))] .nil)) (.ins (.grp [] [.cp 80 (.k 16), .cp 81 (.k 17)] (.grp [] [.call 0 [(t1, [(.k 80), (.k 81)])] [[96, 97]]] (.grp [] [.call 1 [(t1, [(.k 96), (.k 97)])] [[112]]] (.grp [] [.cp 48 (.k 112)] .nil)))) (.ins (.grp [] [.cp 128 (.k 16), .cp 129 (.k 17)] (.grp [] [.call 0 [(t1, [(.k 128), (.k 129)])] [[144, 145]]] (.grp [] [.call 2 [(t1, [(.k 144), (.k 145)])] [[160]]] (.grp [] [.cp 64 (.k 160)] .nil)))) (.ins (.grp [] [.cp 176 (.k 64)] (.grp [] [.cp 192 (.k 48)] (.grp [] [.beq true 208 (.k 176) (.k 192)] .nil))) (.ite (.k 208) (.ins (.grp [] [.cp 32 (.c (.bool false))] .nil) (.ret [(.bool, [(.k 32)])])) (.ins (.grp [] [.cp 32 (.c (.bool true))] .nil) (.ret [(.bool, [(.k 32)])]))))))))]
noncomputable def c_laws_FnExactIsWindow : List Lf.Fn := [n_laws_toWindow, n_spec_IsWindow, n_impl_IsWindow]
noncomputable def f_laws_FnExactIsWindow : (Int × Int) → Option (Bool) := tyd [t1] [.bool] (fnD (DOf c_laws_FnExactIsWindow) s_laws_FnExactIsWindow a_laws_FnExactIsWindow.L b_laws_FnExactIsWindow)
noncomputable def n_laws_FnExactIsWindow : Lf.Fn := ⟨s_laws_FnExactIsWindow, [t1], [.bool], f_laws_FnExactIsWindow⟩
theorem k_laws_FnExactIsWindow : compFn Try.prog (sigsOf c_laws_FnExactIsWindow) s_laws_FnExactIsWindow a_laws_FnExactIsWindow = some b_laws_FnExactIsWindow := by kernel_rfl
theorem g_laws_FnExactIsWindow : Lf.Good Try.prog n_laws_FnExactIsWindow := good_of (by simp only [c_laws_FnExactIsWindow, List.mem_cons, List.not_mem_nil, or_false]; rintro _ (rfl | rfl | rfl); exact g_laws_toWindow; exact g_spec_IsWindow; exact g_impl_IsWindow) k_laws_FnExactIsWindow (by kernel_rfl) ⟨Try.f3, by kernel_rfl, by kernel_rfl, by kernel_rfl⟩ [t1] [.bool]
theorem f_laws_FnExactIsWindow_eq (x0 : (Int × Int)) : f_laws_FnExactIsWindow x0 =
    (f_laws_toWindow x0).bind fun z1 =>
    (f_spec_IsWindow z1).bind fun z2 =>
    (f_laws_toWindow x0).bind fun z3 =>
    (f_impl_IsWindow z3).bind fun z4 =>
    bif (!(z4 == z2)) then
      some false
    else
      some true :=
  (show f_laws_FnExactIsWindow x0 = (Jl (DOf c_laws_FnExactIsWindow) (irBlk a_laws_FnExactIsWindow.L b_laws_FnExactIsWindow) 0 [⟨t0, x0.1⟩, ⟨t0, x0.2⟩]).bind (readOuts [.bool]) by kernel_rfl).trans ((Jstep2 (DKOf_eq c_laws_FnExactIsWindow)).trans (by kernel_rfl))
end Go.Proofs.Ytgabgcogeedclaa
