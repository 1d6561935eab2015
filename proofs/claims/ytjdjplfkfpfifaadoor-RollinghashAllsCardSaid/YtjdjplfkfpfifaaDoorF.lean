/- Closed facts on the types and the functions of the loaded program, each by the kernel. -/
import Derived.Test.YtjdjplfkfpfifaaDoorB
import Derived.Test.YtjdjplfkfpfifaaDoorProg
namespace Go.Proofs.YtjdjplfkfpfifaaDoor
open Go Go.RowKit
set_option linter.unusedVariables false
set_option linter.unusedSimpArgs false
namespace TrydF
end TrydF
theorem sz3 : SizeIs Tryd.prog 3 1 := (show _ = _ from by kernel_rfl)
theorem one3 : One Tryd.prog 3 := ⟨_, Tryd.underlying3, by simp, by simp⟩
theorem z3 : Zero1 Tryd.prog 3 (.int .i64 0) 8 := ⟨by kernel_rfl, rfl⟩
theorem sz5 : SizeIs Tryd.prog 5 1 := (show _ = _ from by kernel_rfl)
theorem one5 : One Tryd.prog 5 := ⟨_, Tryd.underlying5, by simp, by simp⟩
theorem z5 : Zero1 Tryd.prog 5 (.int .u8 0) 1 := ⟨by kernel_rfl, rfl⟩
theorem sz22 : SizeIs Tryd.prog 22 1 := (show _ = _ from by kernel_rfl)
theorem one22 : One Tryd.prog 22 := ⟨_, Tryd.underlying22, by simp, by simp⟩
theorem z22 : Zero1 Tryd.prog 22 (.int .u64 0) 8 := ⟨by kernel_rfl, rfl⟩
theorem sz23 : SizeIs Tryd.prog 23 1 := (show _ = _ from by kernel_rfl)
theorem one23 : One Tryd.prog 23 := ⟨_, Tryd.underlying23, by simp, by simp⟩
theorem z23 : Zero1 Tryd.prog 23 (.slice none 0 0) 24 := ⟨by kernel_rfl, rfl⟩
theorem sz28 : SizeIs Tryd.prog 28 1 := (show _ = _ from by kernel_rfl)
theorem one28 : One Tryd.prog 28 := ⟨_, Tryd.underlying28, by simp, by simp⟩
theorem z28 : Zero1 Tryd.prog 28 (.slice none 0 0) 24 := ⟨by kernel_rfl, rfl⟩
theorem sz29 : SizeIs Tryd.prog 29 1 := (show _ = _ from by kernel_rfl)
theorem one29 : One Tryd.prog 29 := ⟨_, Tryd.underlying29, by simp, by simp⟩
theorem z29 : Zero1 Tryd.prog 29 (.pointer none) 8 := ⟨by kernel_rfl, rfl⟩
theorem sz40 : SizeIs Tryd.prog 40 1 := (show _ = _ from by kernel_rfl)
theorem one40 : One Tryd.prog 40 := ⟨_, Tryd.underlying40, by simp, by simp⟩
theorem z40 : Zero1 Tryd.prog 40 (.int .i64 0) 8 := ⟨by kernel_rfl, rfl⟩
theorem sz47 : SizeIs Tryd.prog 47 1 := (show _ = _ from by kernel_rfl)
theorem one47 : One Tryd.prog 47 := ⟨_, Tryd.underlying47, by simp, by simp⟩
theorem z47 : Zero1 Tryd.prog 47 (.int .u64 0) 8 := ⟨by kernel_rfl, rfl⟩
theorem sz48 : SizeIs Tryd.prog 48 64 := (show _ = _ from by kernel_rfl)
theorem agg48 : Agg Tryd.prog 48 64 := ⟨⟨_, Tryd.underlying48, .inr ⟨_, _, rfl⟩⟩, sz48⟩
theorem sz50 : SizeIs Tryd.prog 50 69 := (show _ = _ from by kernel_rfl)
theorem agg50 : Agg Tryd.prog 50 69 := ⟨⟨_, Tryd.underlying50, .inl ⟨_, rfl⟩⟩, sz50⟩
theorem fld50_0 : FldAt Tryd.prog 50 0 0 := ⟨_, _, Tryd.underlying50, rfl, rfl, 0, (show _ = _ from by kernel_rfl)⟩
theorem fld50_1 : FldAt Tryd.prog 50 1 1 := ⟨_, _, Tryd.underlying50, rfl, rfl, 63, (show _ = _ from by kernel_rfl)⟩
theorem fld50_2 : FldAt Tryd.prog 50 2 65 := ⟨_, _, Tryd.underlying50, rfl, rfl, 0, (show _ = _ from by kernel_rfl)⟩
theorem fld50_3 : FldAt Tryd.prog 50 3 66 := ⟨_, _, Tryd.underlying50, rfl, rfl, 0, (show _ = _ from by kernel_rfl)⟩
theorem fld50_4 : FldAt Tryd.prog 50 4 67 := ⟨_, _, Tryd.underlying50, rfl, rfl, 0, (show _ = _ from by kernel_rfl)⟩
theorem fld50_5 : FldAt Tryd.prog 50 5 68 := ⟨_, _, Tryd.underlying50, rfl, rfl, 0, (show _ = _ from by kernel_rfl)⟩
theorem call11 : Callable Tryd.prog 11 := ⟨_, Tryd.func11, by simp [Tryd.f11], by simp [Tryd.f11]⟩
theorem call12 : Callable Tryd.prog 12 := ⟨_, Tryd.func12, by simp [Tryd.f12], by simp [Tryd.f12]⟩
theorem call13 : Callable Tryd.prog 13 := ⟨_, Tryd.func13, by simp [Tryd.f13], by simp [Tryd.f13]⟩
theorem call14 : Callable Tryd.prog 14 := ⟨_, Tryd.func14, by simp [Tryd.f14], by simp [Tryd.f14]⟩
theorem call15 : Callable Tryd.prog 15 := ⟨_, Tryd.func15, by simp [Tryd.f15], by simp [Tryd.f15]⟩
theorem call16 : Callable Tryd.prog 16 := ⟨_, Tryd.func16, by simp [Tryd.f16], by simp [Tryd.f16]⟩
theorem call17 : Callable Tryd.prog 17 := ⟨_, Tryd.func17, by simp [Tryd.f17], by simp [Tryd.f17]⟩
theorem call18 : Callable Tryd.prog 18 := ⟨_, Tryd.func18, by simp [Tryd.f18], by simp [Tryd.f18]⟩
theorem call19 : Callable Tryd.prog 19 := ⟨_, Tryd.func19, by simp [Tryd.f19], by simp [Tryd.f19]⟩
theorem call20 : Callable Tryd.prog 20 := ⟨_, Tryd.func20, by simp [Tryd.f20], by simp [Tryd.f20]⟩
theorem call21 : Callable Tryd.prog 21 := ⟨_, Tryd.func21, by simp [Tryd.f21], by simp [Tryd.f21]⟩
theorem call22 : Callable Tryd.prog 22 := ⟨_, Tryd.func22, by simp [Tryd.f22], by simp [Tryd.f22]⟩
theorem call23 : Callable Tryd.prog 23 := ⟨_, Tryd.func23, by simp [Tryd.f23], by simp [Tryd.f23]⟩
theorem call24 : Callable Tryd.prog 24 := ⟨_, Tryd.func24, by simp [Tryd.f24], by simp [Tryd.f24]⟩
theorem call25 : Callable Tryd.prog 25 := ⟨_, Tryd.func25, by simp [Tryd.f25], by simp [Tryd.f25]⟩
theorem call26 : Callable Tryd.prog 26 := ⟨_, Tryd.func26, by simp [Tryd.f26], by simp [Tryd.f26]⟩
theorem call27 : Callable Tryd.prog 27 := ⟨_, Tryd.func27, by simp [Tryd.f27], by simp [Tryd.f27]⟩
theorem call28 : Callable Tryd.prog 28 := ⟨_, Tryd.func28, by simp [Tryd.f28], by simp [Tryd.f28]⟩
theorem mixed : Tryd.prog.follows .mixedOrders = true := by kernel_rfl
end Go.Proofs.YtjdjplfkfpfifaaDoor
