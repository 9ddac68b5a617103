/- The types and functions of this translation, as instances for the calculus. Written by program. -/
import Derived.Test.YtfpihahfdmcneaaChecked
import Derived.Test.YtfpihahfdmcneaaJf
namespace Go.Proofs.Ytfpihahfdmcneaa
set_option maxRecDepth 100000
instance : Mixed Try.prog := ⟨by kernel_rfl⟩
instance : TInt Try.prog 3 .i64 := ⟨Try.underlying3⟩
instance : TInfo Try.prog 3 1 8 ([.int .i64 0]) := ⟨⟨(Try.prog.info? 3).getD default, .int .i64 0, by kernel_rfl, by kernel_rfl, by kernel_rfl, by kernel_rfl, by kernel_rfl, by kernel_rfl, by decide⟩⟩
instance : TCell Try.prog 3 := ⟨fun w => ⟨by kernel_rfl, by kernel_rfl⟩⟩
instance : TBool Try.prog 4 := ⟨Try.underlying4⟩
instance : TInfo Try.prog 4 1 1 ([.bool false]) := ⟨⟨(Try.prog.info? 4).getD default, .bool false, by kernel_rfl, by kernel_rfl, by kernel_rfl, by kernel_rfl, by kernel_rfl, by kernel_rfl, by decide⟩⟩
instance : TCell Try.prog 4 := ⟨fun w => ⟨by kernel_rfl, by kernel_rfl⟩⟩
instance : TInt Try.prog 5 .u8 := ⟨Try.underlying5⟩
instance : TInfo Try.prog 5 1 1 ([.int .u8 0]) := ⟨⟨(Try.prog.info? 5).getD default, .int .u8 0, by kernel_rfl, by kernel_rfl, by kernel_rfl, by kernel_rfl, by kernel_rfl, by kernel_rfl, by decide⟩⟩
instance : TCell Try.prog 5 := ⟨fun w => ⟨by kernel_rfl, by kernel_rfl⟩⟩
instance : TStr Try.prog 9 := ⟨Try.underlying9⟩
instance : TInfo Try.prog 9 1 16 ([.string ⟨#[]⟩]) := ⟨⟨(Try.prog.info? 9).getD default, .string ⟨#[]⟩, by kernel_rfl, by kernel_rfl, by kernel_rfl, by kernel_rfl, by kernel_rfl, by kernel_rfl, by decide⟩⟩
instance : TCell Try.prog 9 := ⟨fun w => ⟨by kernel_rfl, by kernel_rfl⟩⟩
instance : TPtr Try.prog 22 52 := ⟨Try.underlying22⟩
instance : TInfo Try.prog 22 1 8 ([.pointer none]) := ⟨⟨(Try.prog.info? 22).getD default, .pointer none, by kernel_rfl, by kernel_rfl, by kernel_rfl, by kernel_rfl, by kernel_rfl, by kernel_rfl, by decide⟩⟩
instance : TCell Try.prog 22 := ⟨fun w => ⟨by kernel_rfl, by kernel_rfl⟩⟩
instance : TInt Try.prog 23 .i64 := ⟨Try.underlying23⟩
instance : TInfo Try.prog 23 1 8 ([.int .i64 0]) := ⟨⟨(Try.prog.info? 23).getD default, .int .i64 0, by kernel_rfl, by kernel_rfl, by kernel_rfl, by kernel_rfl, by kernel_rfl, by kernel_rfl, by decide⟩⟩
instance : TCell Try.prog 23 := ⟨fun w => ⟨by kernel_rfl, by kernel_rfl⟩⟩
instance : TArr Try.prog 34 2 3 := ⟨Try.underlying34⟩
instance : TInfo Try.prog 34 2 16 ([.int .i64 0, .int .i64 0]) := ⟨⟨(Try.prog.info? 34).getD default, .agg ([.int .i64 0, .int .i64 0]).toArray, by kernel_rfl, by kernel_rfl, by kernel_rfl, by kernel_rfl, by kernel_rfl, by kernel_rfl, by decide⟩⟩
instance : TAgg Try.prog 34 2 := ⟨fun w => ⟨by kernel_rfl, by kernel_rfl⟩⟩
instance : TInt Try.prog 37 .u64 := ⟨Try.underlying37⟩
instance : TInfo Try.prog 37 1 8 ([.int .u64 0]) := ⟨⟨(Try.prog.info? 37).getD default, .int .u64 0, by kernel_rfl, by kernel_rfl, by kernel_rfl, by kernel_rfl, by kernel_rfl, by kernel_rfl, by decide⟩⟩
instance : TCell Try.prog 37 := ⟨fun w => ⟨by kernel_rfl, by kernel_rfl⟩⟩
instance : TArr Try.prog 42 3 5 := ⟨Try.underlying42⟩
instance : TInfo Try.prog 42 3 3 ([.int .u8 0, .int .u8 0, .int .u8 0]) := ⟨⟨(Try.prog.info? 42).getD default, .agg ([.int .u8 0, .int .u8 0, .int .u8 0]).toArray, by kernel_rfl, by kernel_rfl, by kernel_rfl, by kernel_rfl, by kernel_rfl, by kernel_rfl, by decide⟩⟩
instance : TAgg Try.prog 42 3 := ⟨fun w => ⟨by kernel_rfl, by kernel_rfl⟩⟩
instance : TSlice Try.prog 47 9 := ⟨Try.underlying47⟩
instance : TInfo Try.prog 47 1 24 ([.slice none 0 0]) := ⟨⟨(Try.prog.info? 47).getD default, .slice none 0 0, by kernel_rfl, by kernel_rfl, by kernel_rfl, by kernel_rfl, by kernel_rfl, by kernel_rfl, by decide⟩⟩
instance : TCell Try.prog 47 := ⟨fun w => ⟨by kernel_rfl, by kernel_rfl⟩⟩
instance : TInfo Try.prog 50 1 8 ([.nilFunc]) := ⟨⟨(Try.prog.info? 50).getD default, .nilFunc, by kernel_rfl, by kernel_rfl, by kernel_rfl, by kernel_rfl, by kernel_rfl, by kernel_rfl, by decide⟩⟩
instance : TCell Try.prog 50 := ⟨fun w => ⟨by kernel_rfl, by kernel_rfl⟩⟩
instance : TInfo Try.prog 52 1 24 ([.slice none 0 0]) := ⟨⟨(Try.prog.info? 52).getD default, .agg ([.slice none 0 0]).toArray, by kernel_rfl, by kernel_rfl, by kernel_rfl, by kernel_rfl, by kernel_rfl, by kernel_rfl, by decide⟩⟩
instance : TAgg Try.prog 52 1 := ⟨fun w => ⟨by kernel_rfl, by kernel_rfl⟩⟩
instance : TField Try.prog 52 0 0 := ⟨fun w => ⟨(fsOf (Try.prog.underlying 52)), (fsOf (Try.prog.underlying 52)).getD 0 default, by kernel_rfl, by kernel_rfl, by kernel_rfl, by kernel_rfl, fun a => by kernel_rfl⟩⟩
instance : TPlaces Try.prog 52 [(0, 1)] ([.slice none 0 0]) := ⟨fun w => ⟨by kernel_rfl, (fsOf (Try.prog.underlying 52)), by kernel_rfl, by kernel_rfl⟩⟩
instance : TSlice Try.prog 55 5 := ⟨Try.underlying55⟩
instance : TInfo Try.prog 55 1 24 ([.slice none 0 0]) := ⟨⟨(Try.prog.info? 55).getD default, .slice none 0 0, by kernel_rfl, by kernel_rfl, by kernel_rfl, by kernel_rfl, by kernel_rfl, by kernel_rfl, by decide⟩⟩
instance : TCell Try.prog 55 := ⟨fun w => ⟨by kernel_rfl, by kernel_rfl⟩⟩
instance : TInt Try.prog 56 .u64 := ⟨Try.underlying56⟩
instance : TInfo Try.prog 56 1 8 ([.int .u64 0]) := ⟨⟨(Try.prog.info? 56).getD default, .int .u64 0, by kernel_rfl, by kernel_rfl, by kernel_rfl, by kernel_rfl, by kernel_rfl, by kernel_rfl, by decide⟩⟩
instance : TCell Try.prog 56 := ⟨fun w => ⟨by kernel_rfl, by kernel_rfl⟩⟩
instance : TPtr Try.prog 60 72 := ⟨Try.underlying60⟩
instance : TInfo Try.prog 60 1 8 ([.pointer none]) := ⟨⟨(Try.prog.info? 60).getD default, .pointer none, by kernel_rfl, by kernel_rfl, by kernel_rfl, by kernel_rfl, by kernel_rfl, by kernel_rfl, by decide⟩⟩
instance : TCell Try.prog 60 := ⟨fun w => ⟨by kernel_rfl, by kernel_rfl⟩⟩
instance : TInt Try.prog 63 .u32 := ⟨Try.underlying63⟩
instance : TInfo Try.prog 63 1 4 ([.int .u32 0]) := ⟨⟨(Try.prog.info? 63).getD default, .int .u32 0, by kernel_rfl, by kernel_rfl, by kernel_rfl, by kernel_rfl, by kernel_rfl, by kernel_rfl, by decide⟩⟩
instance : TCell Try.prog 63 := ⟨fun w => ⟨by kernel_rfl, by kernel_rfl⟩⟩
instance : TSlice Try.prog 64 63 := ⟨Try.underlying64⟩
instance : TInfo Try.prog 64 1 24 ([.slice none 0 0]) := ⟨⟨(Try.prog.info? 64).getD default, .slice none 0 0, by kernel_rfl, by kernel_rfl, by kernel_rfl, by kernel_rfl, by kernel_rfl, by kernel_rfl, by decide⟩⟩
instance : TCell Try.prog 64 := ⟨fun w => ⟨by kernel_rfl, by kernel_rfl⟩⟩
instance : TArr Try.prog 68 8 63 := ⟨Try.underlying68⟩
instance : TInfo Try.prog 68 8 32 (List.replicate 8 (.int .u32 0)) := ⟨⟨(Try.prog.info? 68).getD default, .agg (List.replicate 8 (.int .u32 0)).toArray, by kernel_rfl, by kernel_rfl, by kernel_rfl, by kernel_rfl, by kernel_rfl, by kernel_rfl, by decide⟩⟩
instance : TAgg Try.prog 68 8 := ⟨fun w => ⟨by kernel_rfl, by kernel_rfl⟩⟩
instance : TArr Try.prog 69 8 63 := ⟨Try.underlying69⟩
instance : TInfo Try.prog 69 8 32 (List.replicate 8 (.int .u32 0)) := ⟨⟨(Try.prog.info? 69).getD default, .agg (List.replicate 8 (.int .u32 0)).toArray, by kernel_rfl, by kernel_rfl, by kernel_rfl, by kernel_rfl, by kernel_rfl, by kernel_rfl, by decide⟩⟩
instance : TAgg Try.prog 69 8 := ⟨fun w => ⟨by kernel_rfl, by kernel_rfl⟩⟩
instance : TInfo Try.prog 72 10 56 ([.int .u32 0, .int .u32 0, .int .u32 0, .int .u32 0, .int .u32 0, .int .u32 0, .int .u32 0, .int .u32 0, .string ⟨#[]⟩, .int .i64 0]) := ⟨⟨(Try.prog.info? 72).getD default, .agg ([.int .u32 0, .int .u32 0, .int .u32 0, .int .u32 0, .int .u32 0, .int .u32 0, .int .u32 0, .int .u32 0, .string ⟨#[]⟩, .int .i64 0]).toArray, by kernel_rfl, by kernel_rfl, by kernel_rfl, by kernel_rfl, by kernel_rfl, by kernel_rfl, by decide⟩⟩
instance : TAgg Try.prog 72 10 := ⟨fun w => ⟨by kernel_rfl, by kernel_rfl⟩⟩
instance : TFieldAgg Try.prog 72 0 0 8 := ⟨fun w => ⟨(fsOf (Try.prog.underlying 72)), (fsOf (Try.prog.underlying 72)).getD 0 default, by kernel_rfl, by kernel_rfl, by kernel_rfl, by kernel_rfl, by kernel_rfl, fun a => by kernel_rfl⟩⟩
instance : TField Try.prog 72 1 8 := ⟨fun w => ⟨(fsOf (Try.prog.underlying 72)), (fsOf (Try.prog.underlying 72)).getD 1 default, by kernel_rfl, by kernel_rfl, by kernel_rfl, by kernel_rfl, fun a => by kernel_rfl⟩⟩
instance : TField Try.prog 72 2 9 := ⟨fun w => ⟨(fsOf (Try.prog.underlying 72)), (fsOf (Try.prog.underlying 72)).getD 2 default, by kernel_rfl, by kernel_rfl, by kernel_rfl, by kernel_rfl, fun a => by kernel_rfl⟩⟩
instance : TPlaces Try.prog 72 [(0, 8), (8, 1), (9, 1)] ([.int .u32 0, .int .u32 0, .int .u32 0, .int .u32 0, .int .u32 0, .int .u32 0, .int .u32 0, .int .u32 0, .string ⟨#[]⟩, .int .i64 0]) := ⟨fun w => ⟨by kernel_rfl, (fsOf (Try.prog.underlying 72)), by kernel_rfl, by kernel_rfl⟩⟩
instance : TPtr Try.prog 75 69 := ⟨Try.underlying75⟩
instance : TInfo Try.prog 75 1 8 ([.pointer none]) := ⟨⟨(Try.prog.info? 75).getD default, .pointer none, by kernel_rfl, by kernel_rfl, by kernel_rfl, by kernel_rfl, by kernel_rfl, by kernel_rfl, by decide⟩⟩
instance : TCell Try.prog 75 := ⟨fun w => ⟨by kernel_rfl, by kernel_rfl⟩⟩
instance : TPtr Try.prog 76 79 := ⟨Try.underlying76⟩
instance : TInfo Try.prog 76 1 8 ([.pointer none]) := ⟨⟨(Try.prog.info? 76).getD default, .pointer none, by kernel_rfl, by kernel_rfl, by kernel_rfl, by kernel_rfl, by kernel_rfl, by kernel_rfl, by decide⟩⟩
instance : TCell Try.prog 76 := ⟨fun w => ⟨by kernel_rfl, by kernel_rfl⟩⟩
instance : TArr Try.prog 79 64 63 := ⟨Try.underlying79⟩
instance : TInfo Try.prog 79 64 256 (List.replicate 64 (.int .u32 0)) := ⟨⟨(Try.prog.info? 79).getD default, .agg (List.replicate 64 (.int .u32 0)).toArray, by kernel_rfl, by kernel_rfl, by kernel_rfl, by kernel_rfl, by kernel_rfl, by kernel_rfl, by decide⟩⟩
instance : TAgg Try.prog 79 64 := ⟨fun w => ⟨by kernel_rfl, by kernel_rfl⟩⟩
instance : HasBody Try.prog 3 := ⟨Try.call3⟩
instance : HasBody Try.prog 4 := ⟨Try.call4⟩
instance : HasBody Try.prog 5 := ⟨Try.call5⟩
instance : HasBody Try.prog 6 := ⟨Try.call6⟩
instance : HasBody Try.prog 7 := ⟨Try.call7⟩
instance : HasBody Try.prog 8 := ⟨Try.call8⟩
instance : HasBody Try.prog 9 := ⟨Try.call9⟩
instance : HasBody Try.prog 10 := ⟨Try.call10⟩
instance : HasBody Try.prog 11 := ⟨Try.call11⟩
instance : HasBody Try.prog 12 := ⟨Try.call12⟩
instance : HasBody Try.prog 13 := ⟨Try.call13⟩
instance : HasBody Try.prog 14 := ⟨Try.call14⟩
instance : HasBody Try.prog 15 := ⟨Try.call15⟩
instance : HasBody Try.prog 16 := ⟨Try.call16⟩
instance : HasBody Try.prog 17 := ⟨Try.call17⟩
instance : HasBody Try.prog 18 := ⟨Try.call18⟩
instance : HasBody Try.prog 19 := ⟨Try.call19⟩
instance : HasBody Try.prog 20 := ⟨Try.call20⟩
instance : HasBody Try.prog 21 := ⟨Try.call21⟩
instance : HasBody Try.prog 22 := ⟨Try.call22⟩
instance : HasBody Try.prog 23 := ⟨Try.call23⟩
instance : HasBody Try.prog 24 := ⟨Try.call24⟩
instance : HasBody Try.prog 25 := ⟨Try.call25⟩
instance : HasBody Try.prog 26 := ⟨Try.call26⟩
instance : HasBody Try.prog 27 := ⟨Try.call27⟩
instance : HasBody Try.prog 28 := ⟨Try.call28⟩
instance : HasBody Try.prog 29 := ⟨Try.call29⟩
instance : HasBody Try.prog 30 := ⟨Try.call30⟩
instance : HasBody Try.prog 31 := ⟨Try.call31⟩
instance : HasBody Try.prog 32 := ⟨Try.call32⟩
instance : HasBody Try.prog 33 := ⟨Try.call33⟩
instance : HasBody Try.prog 34 := ⟨Try.call34⟩
instance : HasBody Try.prog 35 := ⟨Try.call35⟩
instance : HasBody Try.prog 36 := ⟨Try.call36⟩
instance : HasBody Try.prog 37 := ⟨Try.call37⟩
instance : HasBody Try.prog 38 := ⟨Try.call38⟩
instance : HasBody Try.prog 39 := ⟨Try.call39⟩
instance : HasBody Try.prog 40 := ⟨Try.call40⟩
instance : HasBody Try.prog 41 := ⟨Try.call41⟩
instance : HasBody Try.prog 42 := ⟨Try.call42⟩
instance : HasBody Try.prog 43 := ⟨Try.call43⟩
instance : HasBody Try.prog 44 := ⟨Try.call44⟩
instance : HasBody Try.prog 45 := ⟨Try.call45⟩
instance : HasBody Try.prog 46 := ⟨Try.call46⟩
instance : HasBody Try.prog 47 := ⟨Try.call47⟩
instance : HasBody Try.prog 48 := ⟨Try.call48⟩
instance : HasBody Try.prog 49 := ⟨Try.call49⟩
instance : HasBody Try.prog 50 := ⟨Try.call50⟩
instance : HasBody Try.prog 51 := ⟨Try.call51⟩
end Go.Proofs.Ytfpihahfdmcneaa
