/- Closed facts on the types and the functions of the loaded program, each by the kernel. -/
import Derived.Test.YtcgcklfbnmaodaaT
import Derived.Test.YtcgcklfbnmaodaaProg
namespace Go.Proofs.Ytcgcklfbnmaodaa
open Go Go.RowKit
set_option linter.unusedVariables false
set_option linter.unusedSimpArgs false
namespace TryF
end TryF
theorem sz3 : SizeIs Try.prog 3 1 := (show _ = _ from by kernel_rfl)
theorem one3 : One Try.prog 3 := ⟨_, Try.underlying3, by simp, by simp⟩
theorem z3 : Zero1 Try.prog 3 (.int .i64 0) 8 := ⟨by kernel_rfl, rfl⟩
theorem sz4 : SizeIs Try.prog 4 1 := (show _ = _ from by kernel_rfl)
theorem one4 : One Try.prog 4 := ⟨_, Try.underlying4, by simp, by simp⟩
theorem z4 : Zero1 Try.prog 4 (.bool false) 1 := ⟨by kernel_rfl, rfl⟩
theorem sz5 : SizeIs Try.prog 5 1 := (show _ = _ from by kernel_rfl)
theorem one5 : One Try.prog 5 := ⟨_, Try.underlying5, by simp, by simp⟩
theorem z5 : Zero1 Try.prog 5 (.int .u8 0) 1 := ⟨by kernel_rfl, rfl⟩
theorem sz9 : SizeIs Try.prog 9 1 := (show _ = _ from by kernel_rfl)
theorem one9 : One Try.prog 9 := ⟨_, Try.underlying9, by simp, by simp⟩
theorem sz22 : SizeIs Try.prog 22 1 := (show _ = _ from by kernel_rfl)
theorem one22 : One Try.prog 22 := ⟨_, Try.underlying22, by simp, by simp⟩
theorem z22 : Zero1 Try.prog 22 (.slice none 0 0) 24 := ⟨by kernel_rfl, rfl⟩
theorem sz24 : SizeIs Try.prog 24 1 := (show _ = _ from by kernel_rfl)
theorem one24 : One Try.prog 24 := ⟨_, Try.underlying24, by simp, by simp⟩
theorem z24 : Zero1 Try.prog 24 (.pointer none) 8 := ⟨by kernel_rfl, rfl⟩
theorem sz25 : SizeIs Try.prog 25 1 := (show _ = _ from by kernel_rfl)
theorem one25 : One Try.prog 25 := ⟨_, Try.underlying25, by simp, by simp⟩
theorem z25 : Zero1 Try.prog 25 (.int .i64 0) 8 := ⟨by kernel_rfl, rfl⟩
theorem sz33 : SizeIs Try.prog 33 1 := (show _ = _ from by kernel_rfl)
theorem one33 : One Try.prog 33 := ⟨_, Try.underlying33, by simp, by simp⟩
theorem z33 : Zero1 Try.prog 33 (.slice none 0 0) 24 := ⟨by kernel_rfl, rfl⟩
theorem sz39 : SizeIs Try.prog 39 1 := (show _ = _ from by kernel_rfl)
theorem one39 : One Try.prog 39 := ⟨_, Try.underlying39, by simp, by simp⟩
theorem z39 : Zero1 Try.prog 39 (.slice none 0 0) 24 := ⟨by kernel_rfl, rfl⟩
theorem sz41 : SizeIs Try.prog 41 5 := (show _ = _ from by kernel_rfl)
theorem agg41 : Agg Try.prog 41 5 := ⟨⟨_, Try.underlying41, .inl ⟨_, rfl⟩⟩, sz41⟩
theorem sz42 : SizeIs Try.prog 42 1 := (show _ = _ from by kernel_rfl)
theorem one42 : One Try.prog 42 := ⟨_, Try.underlying42, by simp, by simp⟩
theorem z42 : Zero1 Try.prog 42 (.pointer none) 8 := ⟨by kernel_rfl, rfl⟩
theorem sz44 : SizeIs Try.prog 44 1 := (show _ = _ from by kernel_rfl)
theorem one44 : One Try.prog 44 := ⟨_, Try.underlying44, by simp, by simp⟩
theorem z44 : Zero1 Try.prog 44 (.slice none 0 0) 24 := ⟨by kernel_rfl, rfl⟩
theorem sz45 : SizeIs Try.prog 45 1 := (show _ = _ from by kernel_rfl)
theorem one45 : One Try.prog 45 := ⟨_, Try.underlying45, by simp, by simp⟩
theorem z45 : Zero1 Try.prog 45 (.slice none 0 0) 24 := ⟨by kernel_rfl, rfl⟩
theorem sz46 : SizeIs Try.prog 46 1 := (show _ = _ from by kernel_rfl)
theorem one46 : One Try.prog 46 := ⟨_, Try.underlying46, by simp, by simp⟩
theorem z46 : Zero1 Try.prog 46 (.slice none 0 0) 24 := ⟨by kernel_rfl, rfl⟩
theorem sz50 : SizeIs Try.prog 50 6 := (show _ = _ from by kernel_rfl)
theorem agg50 : Agg Try.prog 50 6 := ⟨⟨_, Try.underlying50, .inl ⟨_, rfl⟩⟩, sz50⟩
theorem sz60 : SizeIs Try.prog 60 1 := (show _ = _ from by kernel_rfl)
theorem one60 : One Try.prog 60 := ⟨_, Try.underlying60, by simp, by simp⟩
theorem z60 : Zero1 Try.prog 60 (.slice none 0 0) 24 := ⟨by kernel_rfl, rfl⟩
theorem sz62 : SizeIs Try.prog 62 6 := (show _ = _ from by kernel_rfl)
theorem agg62 : Agg Try.prog 62 6 := ⟨⟨_, Try.underlying62, .inl ⟨_, rfl⟩⟩, sz62⟩
theorem sz66 : SizeIs Try.prog 66 2 := (show _ = _ from by kernel_rfl)
theorem agg66 : Agg Try.prog 66 2 := ⟨⟨_, Try.underlying66, .inl ⟨_, rfl⟩⟩, sz66⟩
theorem sz74 : SizeIs Try.prog 74 2 := (show _ = _ from by kernel_rfl)
theorem agg74 : Agg Try.prog 74 2 := ⟨⟨_, Try.underlying74, .inl ⟨_, rfl⟩⟩, sz74⟩
theorem fld41_0 : FldAt Try.prog 41 0 0 := ⟨_, _, Try.underlying41, rfl, rfl, 0, (show _ = _ from by kernel_rfl)⟩
theorem fld41_1 : FldAt Try.prog 41 1 1 := ⟨_, _, Try.underlying41, rfl, rfl, 0, (show _ = _ from by kernel_rfl)⟩
theorem fld41_2 : FldAt Try.prog 41 2 2 := ⟨_, _, Try.underlying41, rfl, rfl, 0, (show _ = _ from by kernel_rfl)⟩
theorem fld41_3 : FldAt Try.prog 41 3 3 := ⟨_, _, Try.underlying41, rfl, rfl, 0, (show _ = _ from by kernel_rfl)⟩
theorem fld41_4 : FldAt Try.prog 41 4 4 := ⟨_, _, Try.underlying41, rfl, rfl, 0, (show _ = _ from by kernel_rfl)⟩
theorem fld50_0 : FldAt Try.prog 50 0 0 := ⟨_, _, Try.underlying50, rfl, rfl, 0, (show _ = _ from by kernel_rfl)⟩
theorem fld50_1 : FldAt Try.prog 50 1 1 := ⟨_, _, Try.underlying50, rfl, rfl, 0, (show _ = _ from by kernel_rfl)⟩
theorem fld50_2 : FldAt Try.prog 50 2 2 := ⟨_, _, Try.underlying50, rfl, rfl, 0, (show _ = _ from by kernel_rfl)⟩
theorem fld50_3 : FldAt Try.prog 50 3 3 := ⟨_, _, Try.underlying50, rfl, rfl, 0, (show _ = _ from by kernel_rfl)⟩
theorem fld50_4 : FldAt Try.prog 50 4 4 := ⟨_, _, Try.underlying50, rfl, rfl, 0, (show _ = _ from by kernel_rfl)⟩
theorem fld50_5 : FldAt Try.prog 50 5 5 := ⟨_, _, Try.underlying50, rfl, rfl, 0, (show _ = _ from by kernel_rfl)⟩
theorem fld62_0 : FldAt Try.prog 62 0 0 := ⟨_, _, Try.underlying62, rfl, rfl, 0, (show _ = _ from by kernel_rfl)⟩
theorem fld62_1 : FldAt Try.prog 62 1 1 := ⟨_, _, Try.underlying62, rfl, rfl, 0, (show _ = _ from by kernel_rfl)⟩
theorem fld62_2 : FldAt Try.prog 62 2 2 := ⟨_, _, Try.underlying62, rfl, rfl, 0, (show _ = _ from by kernel_rfl)⟩
theorem fld62_3 : FldAt Try.prog 62 3 3 := ⟨_, _, Try.underlying62, rfl, rfl, 0, (show _ = _ from by kernel_rfl)⟩
theorem fld62_4 : FldAt Try.prog 62 4 4 := ⟨_, _, Try.underlying62, rfl, rfl, 0, (show _ = _ from by kernel_rfl)⟩
theorem fld62_5 : FldAt Try.prog 62 5 5 := ⟨_, _, Try.underlying62, rfl, rfl, 0, (show _ = _ from by kernel_rfl)⟩
theorem fld66_0 : FldAt Try.prog 66 0 0 := ⟨_, _, Try.underlying66, rfl, rfl, 0, (show _ = _ from by kernel_rfl)⟩
theorem fld66_1 : FldAt Try.prog 66 1 1 := ⟨_, _, Try.underlying66, rfl, rfl, 0, (show _ = _ from by kernel_rfl)⟩
theorem fld74_0 : FldAt Try.prog 74 0 0 := ⟨_, _, Try.underlying74, rfl, rfl, 0, (show _ = _ from by kernel_rfl)⟩
theorem fld74_1 : FldAt Try.prog 74 1 1 := ⟨_, _, Try.underlying74, rfl, rfl, 0, (show _ = _ from by kernel_rfl)⟩
theorem call11 : Callable Try.prog 11 := ⟨_, Try.func11, by simp [Try.f11], by simp [Try.f11]⟩
theorem call12 : Callable Try.prog 12 := ⟨_, Try.func12, by simp [Try.f12], by simp [Try.f12]⟩
theorem call13 : Callable Try.prog 13 := ⟨_, Try.func13, by simp [Try.f13], by simp [Try.f13]⟩
theorem call14 : Callable Try.prog 14 := ⟨_, Try.func14, by simp [Try.f14], by simp [Try.f14]⟩
theorem call15 : Callable Try.prog 15 := ⟨_, Try.func15, by simp [Try.f15], by simp [Try.f15]⟩
theorem call16 : Callable Try.prog 16 := ⟨_, Try.func16, by simp [Try.f16], by simp [Try.f16]⟩
theorem call17 : Callable Try.prog 17 := ⟨_, Try.func17, by simp [Try.f17], by simp [Try.f17]⟩
theorem call18 : Callable Try.prog 18 := ⟨_, Try.func18, by simp [Try.f18], by simp [Try.f18]⟩
theorem call19 : Callable Try.prog 19 := ⟨_, Try.func19, by simp [Try.f19], by simp [Try.f19]⟩
theorem call20 : Callable Try.prog 20 := ⟨_, Try.func20, by simp [Try.f20], by simp [Try.f20]⟩
theorem call21 : Callable Try.prog 21 := ⟨_, Try.func21, by simp [Try.f21], by simp [Try.f21]⟩
theorem call22 : Callable Try.prog 22 := ⟨_, Try.func22, by simp [Try.f22], by simp [Try.f22]⟩
theorem call23 : Callable Try.prog 23 := ⟨_, Try.func23, by simp [Try.f23], by simp [Try.f23]⟩
theorem call24 : Callable Try.prog 24 := ⟨_, Try.func24, by simp [Try.f24], by simp [Try.f24]⟩
theorem call25 : Callable Try.prog 25 := ⟨_, Try.func25, by simp [Try.f25], by simp [Try.f25]⟩
theorem call26 : Callable Try.prog 26 := ⟨_, Try.func26, by simp [Try.f26], by simp [Try.f26]⟩
theorem call27 : Callable Try.prog 27 := ⟨_, Try.func27, by simp [Try.f27], by simp [Try.f27]⟩
theorem call28 : Callable Try.prog 28 := ⟨_, Try.func28, by simp [Try.f28], by simp [Try.f28]⟩
theorem call29 : Callable Try.prog 29 := ⟨_, Try.func29, by simp [Try.f29], by simp [Try.f29]⟩
theorem call30 : Callable Try.prog 30 := ⟨_, Try.func30, by simp [Try.f30], by simp [Try.f30]⟩
theorem call31 : Callable Try.prog 31 := ⟨_, Try.func31, by simp [Try.f31], by simp [Try.f31]⟩
theorem call32 : Callable Try.prog 32 := ⟨_, Try.func32, by simp [Try.f32], by simp [Try.f32]⟩
theorem call33 : Callable Try.prog 33 := ⟨_, Try.func33, by simp [Try.f33], by simp [Try.f33]⟩
theorem call34 : Callable Try.prog 34 := ⟨_, Try.func34, by simp [Try.f34], by simp [Try.f34]⟩
theorem call35 : Callable Try.prog 35 := ⟨_, Try.func35, by simp [Try.f35], by simp [Try.f35]⟩
theorem call36 : Callable Try.prog 36 := ⟨_, Try.func36, by simp [Try.f36], by simp [Try.f36]⟩
theorem call37 : Callable Try.prog 37 := ⟨_, Try.func37, by simp [Try.f37], by simp [Try.f37]⟩
theorem call38 : Callable Try.prog 38 := ⟨_, Try.func38, by simp [Try.f38], by simp [Try.f38]⟩
theorem call39 : Callable Try.prog 39 := ⟨_, Try.func39, by simp [Try.f39], by simp [Try.f39]⟩
theorem call40 : Callable Try.prog 40 := ⟨_, Try.func40, by simp [Try.f40], by simp [Try.f40]⟩
theorem call41 : Callable Try.prog 41 := ⟨_, Try.func41, by simp [Try.f41], by simp [Try.f41]⟩
theorem call42 : Callable Try.prog 42 := ⟨_, Try.func42, by simp [Try.f42], by simp [Try.f42]⟩
theorem call43 : Callable Try.prog 43 := ⟨_, Try.func43, by simp [Try.f43], by simp [Try.f43]⟩
theorem call44 : Callable Try.prog 44 := ⟨_, Try.func44, by simp [Try.f44], by simp [Try.f44]⟩
theorem call45 : Callable Try.prog 45 := ⟨_, Try.func45, by simp [Try.f45], by simp [Try.f45]⟩
theorem call46 : Callable Try.prog 46 := ⟨_, Try.func46, by simp [Try.f46], by simp [Try.f46]⟩
theorem mixed : Try.prog.follows .mixedOrders = true := by kernel_rfl
end Go.Proofs.Ytcgcklfbnmaodaa
