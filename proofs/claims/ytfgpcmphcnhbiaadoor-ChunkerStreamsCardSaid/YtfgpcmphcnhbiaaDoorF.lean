/- Closed facts on the types and the functions of the loaded program, each by the kernel. -/
import Derived.Test.YtfgpcmphcnhbiaaDoorB
import Derived.Test.YtfgpcmphcnhbiaaDoorProg
namespace Go.Proofs.YtfgpcmphcnhbiaaDoor
open Go Go.RowKit
set_option linter.unusedVariables false
set_option linter.unusedSimpArgs false
namespace TrydF
end TrydF
theorem sz3 : SizeIs Tryd.prog 3 1 := (show _ = _ from by kernel_rfl)
theorem one3 : One Tryd.prog 3 := ⟨_, Tryd.underlying3, by simp, by simp⟩
theorem z3 : Zero1 Tryd.prog 3 (.int .i64 0) 8 := ⟨by kernel_rfl, rfl⟩
theorem sz4 : SizeIs Tryd.prog 4 1 := (show _ = _ from by kernel_rfl)
theorem one4 : One Tryd.prog 4 := ⟨_, Tryd.underlying4, by simp, by simp⟩
theorem z4 : Zero1 Tryd.prog 4 (.bool false) 1 := ⟨by kernel_rfl, rfl⟩
theorem sz5 : SizeIs Tryd.prog 5 1 := (show _ = _ from by kernel_rfl)
theorem one5 : One Tryd.prog 5 := ⟨_, Tryd.underlying5, by simp, by simp⟩
theorem z5 : Zero1 Tryd.prog 5 (.int .u8 0) 1 := ⟨by kernel_rfl, rfl⟩
theorem sz9 : SizeIs Tryd.prog 9 1 := (show _ = _ from by kernel_rfl)
theorem one9 : One Tryd.prog 9 := ⟨_, Tryd.underlying9, by simp, by simp⟩
theorem sz22 : SizeIs Tryd.prog 22 1 := (show _ = _ from by kernel_rfl)
theorem one22 : One Tryd.prog 22 := ⟨_, Tryd.underlying22, by simp, by simp⟩
theorem z22 : Zero1 Tryd.prog 22 (.int .u64 0) 8 := ⟨by kernel_rfl, rfl⟩
theorem sz24 : SizeIs Tryd.prog 24 5 := (show _ = _ from by kernel_rfl)
theorem agg24 : Agg Tryd.prog 24 5 := ⟨⟨_, Tryd.underlying24, .inl ⟨_, rfl⟩⟩, sz24⟩
theorem sz25 : SizeIs Tryd.prog 25 1 := (show _ = _ from by kernel_rfl)
theorem one25 : One Tryd.prog 25 := ⟨_, Tryd.underlying25, by simp, by simp⟩
theorem z25 : Zero1 Tryd.prog 25 (.slice none 0 0) 24 := ⟨by kernel_rfl, rfl⟩
theorem sz29 : SizeIs Tryd.prog 29 1 := (show _ = _ from by kernel_rfl)
theorem one29 : One Tryd.prog 29 := ⟨_, Tryd.underlying29, by simp, by simp⟩
theorem z29 : Zero1 Tryd.prog 29 (.int .i64 0) 8 := ⟨by kernel_rfl, rfl⟩
theorem sz32 : SizeIs Tryd.prog 32 1 := (show _ = _ from by kernel_rfl)
theorem one32 : One Tryd.prog 32 := ⟨_, Tryd.underlying32, by simp, by simp⟩
theorem z32 : Zero1 Tryd.prog 32 (.slice none 0 0) 24 := ⟨by kernel_rfl, rfl⟩
theorem sz35 : SizeIs Tryd.prog 35 1 := (show _ = _ from by kernel_rfl)
theorem one35 : One Tryd.prog 35 := ⟨_, Tryd.underlying35, by simp, by simp⟩
theorem z35 : Zero1 Tryd.prog 35 (.slice none 0 0) 24 := ⟨by kernel_rfl, rfl⟩
theorem sz40 : SizeIs Tryd.prog 40 1 := (show _ = _ from by kernel_rfl)
theorem one40 : One Tryd.prog 40 := ⟨_, Tryd.underlying40, by simp, by simp⟩
theorem z40 : Zero1 Tryd.prog 40 (.pointer none) 8 := ⟨by kernel_rfl, rfl⟩
theorem sz57 : SizeIs Tryd.prog 57 1 := (show _ = _ from by kernel_rfl)
theorem one57 : One Tryd.prog 57 := ⟨_, Tryd.underlying57, by simp, by simp⟩
theorem z57 : Zero1 Tryd.prog 57 (.pointer none) 8 := ⟨by kernel_rfl, rfl⟩
theorem sz60 : SizeIs Tryd.prog 60 1 := (show _ = _ from by kernel_rfl)
theorem one60 : One Tryd.prog 60 := ⟨_, Tryd.underlying60, by simp, by simp⟩
theorem z60 : Zero1 Tryd.prog 60 (.pointer none) 8 := ⟨by kernel_rfl, rfl⟩
theorem sz62 : SizeIs Tryd.prog 62 8 := (show _ = _ from by kernel_rfl)
theorem agg62 : Agg Tryd.prog 62 8 := ⟨⟨_, Tryd.underlying62, .inl ⟨_, rfl⟩⟩, sz62⟩
theorem sz65 : SizeIs Tryd.prog 65 1 := (show _ = _ from by kernel_rfl)
theorem one65 : One Tryd.prog 65 := ⟨_, Tryd.underlying65, by simp, by simp⟩
theorem sz69 : SizeIs Tryd.prog 69 2 := (show _ = _ from by kernel_rfl)
theorem agg69 : Agg Tryd.prog 69 2 := ⟨⟨_, Tryd.underlying69, .inl ⟨_, rfl⟩⟩, sz69⟩
theorem sz70 : SizeIs Tryd.prog 70 1 := (show _ = _ from by kernel_rfl)
theorem one70 : One Tryd.prog 70 := ⟨_, Tryd.underlying70, by simp, by simp⟩
theorem z70 : Zero1 Tryd.prog 70 (.slice none 0 0) 24 := ⟨by kernel_rfl, rfl⟩
theorem sz73 : SizeIs Tryd.prog 73 1 := (show _ = _ from by kernel_rfl)
theorem one73 : One Tryd.prog 73 := ⟨_, Tryd.underlying73, by simp, by simp⟩
theorem sz82 : SizeIs Tryd.prog 82 1 := (show _ = _ from by kernel_rfl)
theorem one82 : One Tryd.prog 82 := ⟨_, Tryd.underlying82, by simp, by simp⟩
theorem z82 : Zero1 Tryd.prog 82 (.slice none 0 0) 24 := ⟨by kernel_rfl, rfl⟩
theorem sz84 : SizeIs Tryd.prog 84 64 := (show _ = _ from by kernel_rfl)
theorem agg84 : Agg Tryd.prog 84 64 := ⟨⟨_, Tryd.underlying84, .inr ⟨_, _, rfl⟩⟩, sz84⟩
theorem sz86 : SizeIs Tryd.prog 86 69 := (show _ = _ from by kernel_rfl)
theorem agg86 : Agg Tryd.prog 86 69 := ⟨⟨_, Tryd.underlying86, .inl ⟨_, rfl⟩⟩, sz86⟩
theorem sz88 : SizeIs Tryd.prog 88 1 := (show _ = _ from by kernel_rfl)
theorem one88 : One Tryd.prog 88 := ⟨_, Tryd.underlying88, by simp, by simp⟩
theorem z88 : Zero1 Tryd.prog 88 (.int .u64 0) 8 := ⟨by kernel_rfl, rfl⟩
theorem fld24_0 : FldAt Tryd.prog 24 0 0 := ⟨_, _, Tryd.underlying24, rfl, rfl, 0, (show _ = _ from by kernel_rfl)⟩
theorem fld24_1 : FldAt Tryd.prog 24 1 1 := ⟨_, _, Tryd.underlying24, rfl, rfl, 0, (show _ = _ from by kernel_rfl)⟩
theorem fld24_2 : FldAt Tryd.prog 24 2 2 := ⟨_, _, Tryd.underlying24, rfl, rfl, 0, (show _ = _ from by kernel_rfl)⟩
theorem fld24_3 : FldAt Tryd.prog 24 3 3 := ⟨_, _, Tryd.underlying24, rfl, rfl, 0, (show _ = _ from by kernel_rfl)⟩
theorem fld24_4 : FldAt Tryd.prog 24 4 4 := ⟨_, _, Tryd.underlying24, rfl, rfl, 0, (show _ = _ from by kernel_rfl)⟩
theorem fld62_0 : FldAt Tryd.prog 62 0 0 := ⟨_, _, Tryd.underlying62, rfl, rfl, 0, (show _ = _ from by kernel_rfl)⟩
theorem fld62_1 : FldAt Tryd.prog 62 1 1 := ⟨_, _, Tryd.underlying62, rfl, rfl, 4, (show _ = _ from by kernel_rfl)⟩
theorem fld62_2 : FldAt Tryd.prog 62 2 6 := ⟨_, _, Tryd.underlying62, rfl, rfl, 0, (show _ = _ from by kernel_rfl)⟩
theorem fld62_3 : FldAt Tryd.prog 62 3 7 := ⟨_, _, Tryd.underlying62, rfl, rfl, 0, (show _ = _ from by kernel_rfl)⟩
theorem fld69_0 : FldAt Tryd.prog 69 0 0 := ⟨_, _, Tryd.underlying69, rfl, rfl, 0, (show _ = _ from by kernel_rfl)⟩
theorem fld69_1 : FldAt Tryd.prog 69 1 1 := ⟨_, _, Tryd.underlying69, rfl, rfl, 0, (show _ = _ from by kernel_rfl)⟩
theorem fld86_0 : FldAt Tryd.prog 86 0 0 := ⟨_, _, Tryd.underlying86, rfl, rfl, 0, (show _ = _ from by kernel_rfl)⟩
theorem fld86_1 : FldAt Tryd.prog 86 1 1 := ⟨_, _, Tryd.underlying86, rfl, rfl, 63, (show _ = _ from by kernel_rfl)⟩
theorem fld86_2 : FldAt Tryd.prog 86 2 65 := ⟨_, _, Tryd.underlying86, rfl, rfl, 0, (show _ = _ from by kernel_rfl)⟩
theorem fld86_3 : FldAt Tryd.prog 86 3 66 := ⟨_, _, Tryd.underlying86, rfl, rfl, 0, (show _ = _ from by kernel_rfl)⟩
theorem fld86_4 : FldAt Tryd.prog 86 4 67 := ⟨_, _, Tryd.underlying86, rfl, rfl, 0, (show _ = _ from by kernel_rfl)⟩
theorem fld86_5 : FldAt Tryd.prog 86 5 68 := ⟨_, _, Tryd.underlying86, rfl, rfl, 0, (show _ = _ from by kernel_rfl)⟩
theorem call14 : Callable Tryd.prog 14 := ⟨_, Tryd.func14, by simp [Tryd.f14], by simp [Tryd.f14]⟩
theorem call15 : Callable Tryd.prog 15 := ⟨_, Tryd.func15, by simp [Tryd.f15], by simp [Tryd.f15]⟩
theorem call16 : Callable Tryd.prog 16 := ⟨_, Tryd.func16, by simp [Tryd.f16], by simp [Tryd.f16]⟩
theorem call17 : Callable Tryd.prog 17 := ⟨_, Tryd.func17, by simp [Tryd.f17], by simp [Tryd.f17]⟩
theorem call18 : Callable Tryd.prog 18 := ⟨_, Tryd.func18, by simp [Tryd.f18], by simp [Tryd.f18]⟩
theorem call19 : Callable Tryd.prog 19 := ⟨_, Tryd.func19, by simp [Tryd.f19], by simp [Tryd.f19]⟩
theorem call20 : Callable Tryd.prog 20 := ⟨_, Tryd.func20, by simp [Tryd.f20], by simp [Tryd.f20]⟩
theorem call21 : Callable Tryd.prog 21 := ⟨_, Tryd.func21, by simp [Tryd.f21], by simp [Tryd.f21]⟩
theorem call22 : Callable Tryd.prog 22 := ⟨_, Tryd.func22, by simp [Tryd.f22], by simp [Tryd.f22]⟩
theorem call23 : Callable Tryd.prog 23 := ⟨_, Tryd.func23, by simp [Tryd.f23], by simp [Tryd.f23]⟩
theorem call24 : Callable Tryd.prog 24 := ⟨_, Tryd.func24, by simp [Tryd.f24], by simp [Tryd.f24]⟩
theorem call25 : Callable Tryd.prog 25 := ⟨_, Tryd.func25, by simp [Tryd.f25], by simp [Tryd.f25]⟩
theorem call26 : Callable Tryd.prog 26 := ⟨_, Tryd.func26, by simp [Tryd.f26], by simp [Tryd.f26]⟩
theorem call27 : Callable Tryd.prog 27 := ⟨_, Tryd.func27, by simp [Tryd.f27], by simp [Tryd.f27]⟩
theorem call28 : Callable Tryd.prog 28 := ⟨_, Tryd.func28, by simp [Tryd.f28], by simp [Tryd.f28]⟩
theorem call29 : Callable Tryd.prog 29 := ⟨_, Tryd.func29, by simp [Tryd.f29], by simp [Tryd.f29]⟩
theorem call30 : Callable Tryd.prog 30 := ⟨_, Tryd.func30, by simp [Tryd.f30], by simp [Tryd.f30]⟩
theorem call31 : Callable Tryd.prog 31 := ⟨_, Tryd.func31, by simp [Tryd.f31], by simp [Tryd.f31]⟩
theorem call32 : Callable Tryd.prog 32 := ⟨_, Tryd.func32, by simp [Tryd.f32], by simp [Tryd.f32]⟩
theorem call33 : Callable Tryd.prog 33 := ⟨_, Tryd.func33, by simp [Tryd.f33], by simp [Tryd.f33]⟩
theorem call34 : Callable Tryd.prog 34 := ⟨_, Tryd.func34, by simp [Tryd.f34], by simp [Tryd.f34]⟩
theorem call35 : Callable Tryd.prog 35 := ⟨_, Tryd.func35, by simp [Tryd.f35], by simp [Tryd.f35]⟩
theorem call36 : Callable Tryd.prog 36 := ⟨_, Tryd.func36, by simp [Tryd.f36], by simp [Tryd.f36]⟩
theorem call37 : Callable Tryd.prog 37 := ⟨_, Tryd.func37, by simp [Tryd.f37], by simp [Tryd.f37]⟩
theorem call38 : Callable Tryd.prog 38 := ⟨_, Tryd.func38, by simp [Tryd.f38], by simp [Tryd.f38]⟩
theorem call39 : Callable Tryd.prog 39 := ⟨_, Tryd.func39, by simp [Tryd.f39], by simp [Tryd.f39]⟩
theorem call40 : Callable Tryd.prog 40 := ⟨_, Tryd.func40, by simp [Tryd.f40], by simp [Tryd.f40]⟩
theorem call41 : Callable Tryd.prog 41 := ⟨_, Tryd.func41, by simp [Tryd.f41], by simp [Tryd.f41]⟩
theorem call42 : Callable Tryd.prog 42 := ⟨_, Tryd.func42, by simp [Tryd.f42], by simp [Tryd.f42]⟩
theorem call43 : Callable Tryd.prog 43 := ⟨_, Tryd.func43, by simp [Tryd.f43], by simp [Tryd.f43]⟩
theorem call44 : Callable Tryd.prog 44 := ⟨_, Tryd.func44, by simp [Tryd.f44], by simp [Tryd.f44]⟩
theorem call45 : Callable Tryd.prog 45 := ⟨_, Tryd.func45, by simp [Tryd.f45], by simp [Tryd.f45]⟩
theorem call46 : Callable Tryd.prog 46 := ⟨_, Tryd.func46, by simp [Tryd.f46], by simp [Tryd.f46]⟩
theorem call47 : Callable Tryd.prog 47 := ⟨_, Tryd.func47, by simp [Tryd.f47], by simp [Tryd.f47]⟩
theorem call48 : Callable Tryd.prog 48 := ⟨_, Tryd.func48, by simp [Tryd.f48], by simp [Tryd.f48]⟩
theorem call49 : Callable Tryd.prog 49 := ⟨_, Tryd.func49, by simp [Tryd.f49], by simp [Tryd.f49]⟩
theorem call50 : Callable Tryd.prog 50 := ⟨_, Tryd.func50, by simp [Tryd.f50], by simp [Tryd.f50]⟩
theorem call51 : Callable Tryd.prog 51 := ⟨_, Tryd.func51, by simp [Tryd.f51], by simp [Tryd.f51]⟩
theorem call52 : Callable Tryd.prog 52 := ⟨_, Tryd.func52, by simp [Tryd.f52], by simp [Tryd.f52]⟩
theorem call53 : Callable Tryd.prog 53 := ⟨_, Tryd.func53, by simp [Tryd.f53], by simp [Tryd.f53]⟩
theorem call54 : Callable Tryd.prog 54 := ⟨_, Tryd.func54, by simp [Tryd.f54], by simp [Tryd.f54]⟩
theorem call55 : Callable Tryd.prog 55 := ⟨_, Tryd.func55, by simp [Tryd.f55], by simp [Tryd.f55]⟩
theorem call56 : Callable Tryd.prog 56 := ⟨_, Tryd.func56, by simp [Tryd.f56], by simp [Tryd.f56]⟩
theorem call57 : Callable Tryd.prog 57 := ⟨_, Tryd.func57, by simp [Tryd.f57], by simp [Tryd.f57]⟩
theorem mixed : Tryd.prog.follows .mixedOrders = true := by kernel_rfl
end Go.Proofs.YtfgpcmphcnhbiaaDoor
