/- What each type of the translation is: closed facts. -/
import Derived.Test.YtahjgjmemijofaaOps
import Derived.Test.YtahjgjmemijofaaProg
import Derived.KernelRfl
namespace Go.Proofs.Ytahjgjmemijofaa.Eng
open Go
theorem ty1 : tinf Try.prog 1 = some ((TypeDesc.func #[] #[] false), 1, 8, some (.nilFunc)) := by kernel_rfl
theorem ty2 : tinf Try.prog 2 = some ((TypeDesc.int IntKind.i64), 1, 8, some (.int .i64 0)) := by kernel_rfl
theorem ty3 : tinf Try.prog 3 = some ((TypeDesc.int IntKind.i64), 1, 8, some (.int .i64 0)) := by kernel_rfl
theorem ty4 : tinf Try.prog 4 = some (TypeDesc.bool, 1, 1, some (.bool false)) := by kernel_rfl
theorem ty5 : tinf Try.prog 5 = some ((TypeDesc.int IntKind.u8), 1, 1, some (.int .u8 0)) := by kernel_rfl
theorem ty6 : tinf Try.prog 6 = some ((TypeDesc.int IntKind.u8), 1, 1, some (.int .u8 0)) := by kernel_rfl
theorem ty7 : tinf Try.prog 7 = some ((TypeDesc.struct #[{ name := "x", type := 2, offset := 0, embedded := false, tag := "", pkgPath := "runtime", byteOffset := 0 }, { name := "y", type := 3, offset := 1, embedded := false, tag := "", pkgPath := "runtime", byteOffset := 8 }, { name := "signed", type := 4, offset := 2, embedded := false, tag := "", pkgPath := "runtime", byteOffset := 16 }, { name := "code", type := 6, offset := 3, embedded := false, tag := "", pkgPath := "runtime", byteOffset := 17 }]), 4, 24, some (.agg #[.int .i64 0, .int .i64 0, .bool false, .int .u8 0])) := by kernel_rfl
theorem pl7 : plc Try.prog [{ name := "x", type := 2, offset := 0, embedded := false, tag := "", pkgPath := "runtime", byteOffset := 0 }, { name := "y", type := 3, offset := 1, embedded := false, tag := "", pkgPath := "runtime", byteOffset := 8 }, { name := "signed", type := 4, offset := 2, embedded := false, tag := "", pkgPath := "runtime", byteOffset := 16 }, { name := "code", type := 6, offset := 3, embedded := false, tag := "", pkgPath := "runtime", byteOffset := 17 }] = some [(0, 1), (1, 1), (2, 1), (3, 1)] := by kernel_rfl
theorem ty8 : tinf Try.prog 8 = some ((TypeDesc.struct #[{ name := "x", type := 2, offset := 0, embedded := false, tag := "", pkgPath := "runtime", byteOffset := 0 }, { name := "y", type := 3, offset := 1, embedded := false, tag := "", pkgPath := "runtime", byteOffset := 8 }, { name := "signed", type := 4, offset := 2, embedded := false, tag := "", pkgPath := "runtime", byteOffset := 16 }, { name := "code", type := 6, offset := 3, embedded := false, tag := "", pkgPath := "runtime", byteOffset := 17 }]), 4, 24, some (.agg #[.int .i64 0, .int .i64 0, .bool false, .int .u8 0])) := by kernel_rfl
theorem pl8 : plc Try.prog [{ name := "x", type := 2, offset := 0, embedded := false, tag := "", pkgPath := "runtime", byteOffset := 0 }, { name := "y", type := 3, offset := 1, embedded := false, tag := "", pkgPath := "runtime", byteOffset := 8 }, { name := "signed", type := 4, offset := 2, embedded := false, tag := "", pkgPath := "runtime", byteOffset := 16 }, { name := "code", type := 6, offset := 3, embedded := false, tag := "", pkgPath := "runtime", byteOffset := 17 }] = some [(0, 1), (1, 1), (2, 1), (3, 1)] := by kernel_rfl
theorem ty9 : tinf Try.prog 9 = some (TypeDesc.string, 1, 16, some (.string ⟨#[]⟩)) := by kernel_rfl
theorem ty10 : tinf Try.prog 10 = some (TypeDesc.string, 1, 16, some (.string ⟨#[]⟩)) := by kernel_rfl
theorem ty11 : tinf Try.prog 11 = some (TypeDesc.string, 1, 16, some (.string ⟨#[]⟩)) := by kernel_rfl
theorem ty12 : tinf Try.prog 12 = some ((TypeDesc.int IntKind.u64), 1, 8, some (.int .u64 0)) := by kernel_rfl
theorem ty13 : tinf Try.prog 13 = some ((TypeDesc.struct #[{ name := "msg", type := 9, offset := 0, embedded := false, tag := "", pkgPath := "runtime", byteOffset := 0 }, { name := "addr", type := 12, offset := 1, embedded := false, tag := "", pkgPath := "runtime", byteOffset := 16 }]), 2, 24, some (.agg #[.string ⟨#[]⟩, .int .u64 0])) := by kernel_rfl
theorem pl13 : plc Try.prog [{ name := "msg", type := 9, offset := 0, embedded := false, tag := "", pkgPath := "runtime", byteOffset := 0 }, { name := "addr", type := 12, offset := 1, embedded := false, tag := "", pkgPath := "runtime", byteOffset := 16 }] = some [(0, 1), (1, 1)] := by kernel_rfl
theorem ty14 : tinf Try.prog 14 = some ((TypeDesc.struct #[{ name := "msg", type := 9, offset := 0, embedded := false, tag := "", pkgPath := "runtime", byteOffset := 0 }, { name := "addr", type := 12, offset := 1, embedded := false, tag := "", pkgPath := "runtime", byteOffset := 16 }]), 2, 24, some (.agg #[.string ⟨#[]⟩, .int .u64 0])) := by kernel_rfl
theorem pl14 : plc Try.prog [{ name := "msg", type := 9, offset := 0, embedded := false, tag := "", pkgPath := "runtime", byteOffset := 0 }, { name := "addr", type := 12, offset := 1, embedded := false, tag := "", pkgPath := "runtime", byteOffset := 16 }] = some [(0, 1), (1, 1)] := by kernel_rfl
theorem ty15 : tinf Try.prog 15 = some ((TypeDesc.pointer 129), 1, 8, some (.pointer none)) := by kernel_rfl
theorem ty16 : tinf Try.prog 16 = some ((TypeDesc.pointer 132), 1, 8, some (.pointer none)) := by kernel_rfl
theorem ty17 : tinf Try.prog 17 = some ((TypeDesc.pointer 140), 1, 8, some (.pointer none)) := by kernel_rfl
theorem ty18 : tinf Try.prog 18 = some ((TypeDesc.struct #[{ name := "typ", type := 17, offset := 0, embedded := false, tag := "", pkgPath := "internal/runtime/maps", byteOffset := 0 }]), 1, 8, some (.agg #[.pointer none])) := by kernel_rfl
theorem pl18 : plc Try.prog [{ name := "typ", type := 17, offset := 0, embedded := false, tag := "", pkgPath := "internal/runtime/maps", byteOffset := 0 }] = some [(0, 1)] := by kernel_rfl
theorem ty19 : tinf Try.prog 19 = some ((TypeDesc.struct #[{ name := "typ", type := 17, offset := 0, embedded := false, tag := "", pkgPath := "internal/runtime/maps", byteOffset := 0 }]), 1, 8, some (.agg #[.pointer none])) := by kernel_rfl
theorem pl19 : plc Try.prog [{ name := "typ", type := 17, offset := 0, embedded := false, tag := "", pkgPath := "internal/runtime/maps", byteOffset := 0 }] = some [(0, 1)] := by kernel_rfl
theorem ty20 : tinf Try.prog 20 = some ((TypeDesc.interface #[]), 1, 16, some (.nilIface)) := by kernel_rfl
theorem ty21 : tinf Try.prog 21 = some ((TypeDesc.int IntKind.i32), 1, 4, some (.int .i32 0)) := by kernel_rfl
theorem ty22 : tinf Try.prog 22 = some ((TypeDesc.slice 39), 1, 24, some (.slice none 0 0)) := by kernel_rfl
theorem ty23 : tinf Try.prog 23 = some ((TypeDesc.pointer 52), 1, 8, some (.pointer none)) := by kernel_rfl
theorem ty25 : tinf Try.prog 25 = some ((TypeDesc.func #[3, 22] #[23, 4] false), 1, 8, some (.nilFunc)) := by kernel_rfl
theorem ty26 : tinf Try.prog 26 = some ((TypeDesc.func #[] #[4] false), 1, 8, some (.nilFunc)) := by kernel_rfl
theorem ty27 : tinf Try.prog 27 = some ((TypeDesc.int IntKind.i64), 1, 8, some (.int .i64 0)) := by kernel_rfl
theorem ty28 : tinf Try.prog 28 = some ((TypeDesc.func #[] #[27] false), 1, 8, some (.nilFunc)) := by kernel_rfl
theorem ty29 : tinf Try.prog 29 = some ((TypeDesc.func #[3, 3, 3] #[27] false), 1, 8, some (.nilFunc)) := by kernel_rfl
theorem ty30 : tinf Try.prog 30 = some ((TypeDesc.slice 5), 1, 24, some (.slice none 0 0)) := by kernel_rfl
theorem ty32 : tinf Try.prog 32 = some ((TypeDesc.func #[9] #[30, 27] false), 1, 8, some (.nilFunc)) := by kernel_rfl
theorem ty33 : tinf Try.prog 33 = some ((TypeDesc.slice 9), 1, 24, some (.slice none 0 0)) := by kernel_rfl
theorem ty34 : tinf Try.prog 34 = some ((TypeDesc.func #[] #[33] false), 1, 8, some (.nilFunc)) := by kernel_rfl
theorem ty35 : tinf Try.prog 35 = some ((TypeDesc.func #[9, 9] #[27] false), 1, 8, some (.nilFunc)) := by kernel_rfl
theorem ty36 : tinf Try.prog 36 = some ((TypeDesc.func #[30, 30] #[4] false), 1, 8, some (.nilFunc)) := by kernel_rfl
theorem ty37 : tinf Try.prog 37 = some ((TypeDesc.func #[3, 22, 9, 9] #[4] false), 1, 8, some (.nilFunc)) := by kernel_rfl
theorem ty38 : tinf Try.prog 38 = some ((TypeDesc.struct #[{ name := "Op", type := 3, offset := 0, embedded := false, tag := "", pkgPath := "", byteOffset := 0 }, { name := "Name", type := 9, offset := 1, embedded := false, tag := "", pkgPath := "", byteOffset := 8 }, { name := "To", type := 9, offset := 2, embedded := false, tag := "", pkgPath := "", byteOffset := 24 }, { name := "At", type := 3, offset := 3, embedded := false, tag := "", pkgPath := "", byteOffset := 40 }, { name := "B", type := 30, offset := 4, embedded := false, tag := "", pkgPath := "", byteOffset := 48 }, { name := "N", type := 3, offset := 5, embedded := false, tag := "", pkgPath := "", byteOffset := 72 }, { name := "Keep", type := 3, offset := 6, embedded := false, tag := "", pkgPath := "", byteOffset := 80 }, { name := "Tear", type := 3, offset := 7, embedded := false, tag := "", pkgPath := "", byteOffset := 88 }]), 8, 96, some (.agg #[.int .i64 0, .string ⟨#[]⟩, .string ⟨#[]⟩, .int .i64 0, .slice none 0 0, .int .i64 0, .int .i64 0, .int .i64 0])) := by kernel_rfl
theorem pl38 : plc Try.prog [{ name := "Op", type := 3, offset := 0, embedded := false, tag := "", pkgPath := "", byteOffset := 0 }, { name := "Name", type := 9, offset := 1, embedded := false, tag := "", pkgPath := "", byteOffset := 8 }, { name := "To", type := 9, offset := 2, embedded := false, tag := "", pkgPath := "", byteOffset := 24 }, { name := "At", type := 3, offset := 3, embedded := false, tag := "", pkgPath := "", byteOffset := 40 }, { name := "B", type := 30, offset := 4, embedded := false, tag := "", pkgPath := "", byteOffset := 48 }, { name := "N", type := 3, offset := 5, embedded := false, tag := "", pkgPath := "", byteOffset := 72 }, { name := "Keep", type := 3, offset := 6, embedded := false, tag := "", pkgPath := "", byteOffset := 80 }, { name := "Tear", type := 3, offset := 7, embedded := false, tag := "", pkgPath := "", byteOffset := 88 }] = some [(0, 1), (1, 1), (2, 1), (3, 1), (4, 1), (5, 1), (6, 1), (7, 1)] := by kernel_rfl
theorem ty39 : tinf Try.prog 39 = some ((TypeDesc.struct #[{ name := "Op", type := 3, offset := 0, embedded := false, tag := "", pkgPath := "", byteOffset := 0 }, { name := "Name", type := 9, offset := 1, embedded := false, tag := "", pkgPath := "", byteOffset := 8 }, { name := "To", type := 9, offset := 2, embedded := false, tag := "", pkgPath := "", byteOffset := 24 }, { name := "At", type := 3, offset := 3, embedded := false, tag := "", pkgPath := "", byteOffset := 40 }, { name := "B", type := 30, offset := 4, embedded := false, tag := "", pkgPath := "", byteOffset := 48 }, { name := "N", type := 3, offset := 5, embedded := false, tag := "", pkgPath := "", byteOffset := 72 }, { name := "Keep", type := 3, offset := 6, embedded := false, tag := "", pkgPath := "", byteOffset := 80 }, { name := "Tear", type := 3, offset := 7, embedded := false, tag := "", pkgPath := "", byteOffset := 88 }]), 8, 96, some (.agg #[.int .i64 0, .string ⟨#[]⟩, .string ⟨#[]⟩, .int .i64 0, .slice none 0 0, .int .i64 0, .int .i64 0, .int .i64 0])) := by kernel_rfl
theorem pl39 : plc Try.prog [{ name := "Op", type := 3, offset := 0, embedded := false, tag := "", pkgPath := "", byteOffset := 0 }, { name := "Name", type := 9, offset := 1, embedded := false, tag := "", pkgPath := "", byteOffset := 8 }, { name := "To", type := 9, offset := 2, embedded := false, tag := "", pkgPath := "", byteOffset := 24 }, { name := "At", type := 3, offset := 3, embedded := false, tag := "", pkgPath := "", byteOffset := 40 }, { name := "B", type := 30, offset := 4, embedded := false, tag := "", pkgPath := "", byteOffset := 48 }, { name := "N", type := 3, offset := 5, embedded := false, tag := "", pkgPath := "", byteOffset := 72 }, { name := "Keep", type := 3, offset := 6, embedded := false, tag := "", pkgPath := "", byteOffset := 80 }, { name := "Tear", type := 3, offset := 7, embedded := false, tag := "", pkgPath := "", byteOffset := 88 }] = some [(0, 1), (1, 1), (2, 1), (3, 1), (4, 1), (5, 1), (6, 1), (7, 1)] := by kernel_rfl
theorem ty40 : tinf Try.prog 40 = some ((TypeDesc.func #[22] #[4] false), 1, 8, some (.nilFunc)) := by kernel_rfl
theorem ty41 : tinf Try.prog 41 = some ((TypeDesc.func #[39] #[4] false), 1, 8, some (.nilFunc)) := by kernel_rfl
theorem ty42 : tinf Try.prog 42 = some ((TypeDesc.func #[] #[23] false), 1, 8, some (.nilFunc)) := by kernel_rfl
theorem ty43 : tinf Try.prog 43 = some ((TypeDesc.func #[23, 39] #[27] false), 1, 8, some (.nilFunc)) := by kernel_rfl
theorem ty44 : tinf Try.prog 44 = some ((TypeDesc.int IntKind.u64), 1, 8, some (.int .u64 0)) := by kernel_rfl
theorem ty45 : tinf Try.prog 45 = some ((TypeDesc.func #[3, 22, 39] #[4] false), 1, 8, some (.nilFunc)) := by kernel_rfl
theorem ty46 : tinf Try.prog 46 = some ((TypeDesc.struct #[{ name := "off", type := 4, offset := 0, embedded := false, tag := "", pkgPath := "spandrel/disk", byteOffset := 0 }, { name := "left", type := 3, offset := 1, embedded := false, tag := "", pkgPath := "spandrel/disk", byteOffset := 8 }, { name := "keep", type := 3, offset := 2, embedded := false, tag := "", pkgPath := "spandrel/disk", byteOffset := 16 }, { name := "tear", type := 3, offset := 3, embedded := false, tag := "", pkgPath := "spandrel/disk", byteOffset := 24 }]), 4, 32, some (.agg #[.bool false, .int .i64 0, .int .i64 0, .int .i64 0])) := by kernel_rfl
theorem pl46 : plc Try.prog [{ name := "off", type := 4, offset := 0, embedded := false, tag := "", pkgPath := "spandrel/disk", byteOffset := 0 }, { name := "left", type := 3, offset := 1, embedded := false, tag := "", pkgPath := "spandrel/disk", byteOffset := 8 }, { name := "keep", type := 3, offset := 2, embedded := false, tag := "", pkgPath := "spandrel/disk", byteOffset := 16 }, { name := "tear", type := 3, offset := 3, embedded := false, tag := "", pkgPath := "spandrel/disk", byteOffset := 24 }] = some [(0, 1), (1, 1), (2, 1), (3, 1)] := by kernel_rfl
theorem ty47 : tinf Try.prog 47 = some ((TypeDesc.struct #[{ name := "off", type := 4, offset := 0, embedded := false, tag := "", pkgPath := "spandrel/disk", byteOffset := 0 }, { name := "left", type := 3, offset := 1, embedded := false, tag := "", pkgPath := "spandrel/disk", byteOffset := 8 }, { name := "keep", type := 3, offset := 2, embedded := false, tag := "", pkgPath := "spandrel/disk", byteOffset := 16 }, { name := "tear", type := 3, offset := 3, embedded := false, tag := "", pkgPath := "spandrel/disk", byteOffset := 24 }]), 4, 32, some (.agg #[.bool false, .int .i64 0, .int .i64 0, .int .i64 0])) := by kernel_rfl
theorem pl47 : plc Try.prog [{ name := "off", type := 4, offset := 0, embedded := false, tag := "", pkgPath := "spandrel/disk", byteOffset := 0 }, { name := "left", type := 3, offset := 1, embedded := false, tag := "", pkgPath := "spandrel/disk", byteOffset := 8 }, { name := "keep", type := 3, offset := 2, embedded := false, tag := "", pkgPath := "spandrel/disk", byteOffset := 16 }, { name := "tear", type := 3, offset := 3, embedded := false, tag := "", pkgPath := "spandrel/disk", byteOffset := 24 }] = some [(0, 1), (1, 1), (2, 1), (3, 1)] := by kernel_rfl
theorem ty48 : tinf Try.prog 48 = some ((TypeDesc.map 9 30), 1, 8, some (.map none)) := by kernel_rfl
theorem ty49 : tinf Try.prog 49 = some ((TypeDesc.map 9 30), 1, 8, some (.map none)) := by kernel_rfl
theorem ty50 : tinf Try.prog 50 = some ((TypeDesc.slice 82), 1, 24, some (.slice none 0 0)) := by kernel_rfl
theorem ty51 : tinf Try.prog 51 = some ((TypeDesc.struct #[{ name := "power", type := 47, offset := 0, embedded := true, tag := "", pkgPath := "spandrel/disk", byteOffset := 0 }, { name := "room", type := 3, offset := 4, embedded := false, tag := "", pkgPath := "spandrel/disk", byteOffset := 32 }, { name := "seen", type := 49, offset := 5, embedded := false, tag := "", pkgPath := "spandrel/disk", byteOffset := 40 }, { name := "lasting", type := 49, offset := 6, embedded := false, tag := "", pkgPath := "spandrel/disk", byteOffset := 48 }, { name := "acts", type := 50, offset := 7, embedded := false, tag := "", pkgPath := "spandrel/disk", byteOffset := 56 }]), 8, 80, some (.agg #[.bool false, .int .i64 0, .int .i64 0, .int .i64 0, .int .i64 0, .map none, .map none, .slice none 0 0])) := by kernel_rfl
theorem pl51 : plc Try.prog [{ name := "power", type := 47, offset := 0, embedded := true, tag := "", pkgPath := "spandrel/disk", byteOffset := 0 }, { name := "room", type := 3, offset := 4, embedded := false, tag := "", pkgPath := "spandrel/disk", byteOffset := 32 }, { name := "seen", type := 49, offset := 5, embedded := false, tag := "", pkgPath := "spandrel/disk", byteOffset := 40 }, { name := "lasting", type := 49, offset := 6, embedded := false, tag := "", pkgPath := "spandrel/disk", byteOffset := 48 }, { name := "acts", type := 50, offset := 7, embedded := false, tag := "", pkgPath := "spandrel/disk", byteOffset := 56 }] = some [(0, 4), (4, 1), (5, 1), (6, 1), (7, 1)] := by kernel_rfl
theorem ty52 : tinf Try.prog 52 = some ((TypeDesc.struct #[{ name := "power", type := 47, offset := 0, embedded := true, tag := "", pkgPath := "spandrel/disk", byteOffset := 0 }, { name := "room", type := 3, offset := 4, embedded := false, tag := "", pkgPath := "spandrel/disk", byteOffset := 32 }, { name := "seen", type := 49, offset := 5, embedded := false, tag := "", pkgPath := "spandrel/disk", byteOffset := 40 }, { name := "lasting", type := 49, offset := 6, embedded := false, tag := "", pkgPath := "spandrel/disk", byteOffset := 48 }, { name := "acts", type := 50, offset := 7, embedded := false, tag := "", pkgPath := "spandrel/disk", byteOffset := 56 }]), 8, 80, some (.agg #[.bool false, .int .i64 0, .int .i64 0, .int .i64 0, .int .i64 0, .map none, .map none, .slice none 0 0])) := by kernel_rfl
theorem pl52 : plc Try.prog [{ name := "power", type := 47, offset := 0, embedded := true, tag := "", pkgPath := "spandrel/disk", byteOffset := 0 }, { name := "room", type := 3, offset := 4, embedded := false, tag := "", pkgPath := "spandrel/disk", byteOffset := 32 }, { name := "seen", type := 49, offset := 5, embedded := false, tag := "", pkgPath := "spandrel/disk", byteOffset := 40 }, { name := "lasting", type := 49, offset := 6, embedded := false, tag := "", pkgPath := "spandrel/disk", byteOffset := 48 }, { name := "acts", type := 50, offset := 7, embedded := false, tag := "", pkgPath := "spandrel/disk", byteOffset := 56 }] = some [(0, 4), (4, 1), (5, 1), (6, 1), (7, 1)] := by kernel_rfl
theorem ty53 : tinf Try.prog 53 = some ((TypeDesc.slice 23), 1, 24, some (.slice none 0 0)) := by kernel_rfl
theorem ty54 : tinf Try.prog 54 = some ((TypeDesc.func #[] #[3] false), 1, 8, some (.nilFunc)) := by kernel_rfl
theorem ty56 : tinf Try.prog 56 = some ((TypeDesc.func #[3] #[23, 27] false), 1, 8, some (.nilFunc)) := by kernel_rfl
theorem ty57 : tinf Try.prog 57 = some ((TypeDesc.pointer 86), 1, 8, some (.pointer none)) := by kernel_rfl
theorem ty59 : tinf Try.prog 59 = some ((TypeDesc.func #[3] #[57, 27] false), 1, 8, some (.nilFunc)) := by kernel_rfl
theorem ty60 : tinf Try.prog 60 = some ((TypeDesc.func #[30] #[30] false), 1, 8, some (.nilFunc)) := by kernel_rfl
theorem ty61 : tinf Try.prog 61 = some ((TypeDesc.func #[9, 3] #[27] false), 1, 8, some (.nilFunc)) := by kernel_rfl
theorem ty62 : tinf Try.prog 62 = some ((TypeDesc.func #[9] #[27] false), 1, 8, some (.nilFunc)) := by kernel_rfl
theorem ty63 : tinf Try.prog 63 = some ((TypeDesc.func #[3, 3] #[27] false), 1, 8, some (.nilFunc)) := by kernel_rfl
theorem ty64 : tinf Try.prog 64 = some ((TypeDesc.func #[9, 3, 30] #[27] false), 1, 8, some (.nilFunc)) := by kernel_rfl
theorem ty65 : tinf Try.prog 65 = some ((TypeDesc.func #[23, 57] #[4] false), 1, 8, some (.nilFunc)) := by kernel_rfl
theorem ty66 : tinf Try.prog 66 = some ((TypeDesc.func #[3, 22] #[4] false), 1, 8, some (.nilFunc)) := by kernel_rfl
theorem ty67 : tinf Try.prog 67 = some ((TypeDesc.func #[23, 23] #[4] false), 1, 8, some (.nilFunc)) := by kernel_rfl
theorem ty68 : tinf Try.prog 68 = some ((TypeDesc.func #[3, 22, 22, 3, 3, 3] #[4] false), 1, 8, some (.nilFunc)) := by kernel_rfl
theorem ty69 : tinf Try.prog 69 = some ((TypeDesc.func #[3, 22, 22, 22] #[4] false), 1, 8, some (.nilFunc)) := by kernel_rfl
theorem ty70 : tinf Try.prog 70 = some ((TypeDesc.func #[3, 22, 3, 3] #[4] false), 1, 8, some (.nilFunc)) := by kernel_rfl
theorem ty71 : tinf Try.prog 71 = some ((TypeDesc.func #[3, 22, 22, 3] #[4] false), 1, 8, some (.nilFunc)) := by kernel_rfl
theorem ty72 : tinf Try.prog 72 = some ((TypeDesc.func #[74] #[33] false), 1, 8, some (.nilFunc)) := by kernel_rfl
theorem ty73 : tinf Try.prog 73 = some ((TypeDesc.func #[93] #[] false), 1, 8, some (.nilFunc)) := by kernel_rfl
theorem ty74 : tinf Try.prog 74 = some ((TypeDesc.func #[93] #[] false), 1, 8, some (.nilFunc)) := by kernel_rfl
theorem ty75 : tinf Try.prog 75 = some ((TypeDesc.func #[49] #[74] false), 1, 8, some (.nilFunc)) := by kernel_rfl
theorem ty76 : tinf Try.prog 76 = some ((TypeDesc.func #[33] #[4] true), 1, 8, some (.nilFunc)) := by kernel_rfl
theorem ty77 : tinf Try.prog 77 = some ((TypeDesc.func #[30, 78] #[27] false), 1, 8, some (.nilFunc)) := by kernel_rfl
theorem ty78 : tinf Try.prog 78 = some ((TypeDesc.func #[49, 30] #[] false), 1, 8, some (.nilFunc)) := by kernel_rfl
theorem ty79 : tinf Try.prog 79 = some ((TypeDesc.func #[] #[49] false), 1, 8, some (.nilFunc)) := by kernel_rfl
theorem ty80 : tinf Try.prog 80 = some ((TypeDesc.func #[50] #[50] false), 1, 8, some (.nilFunc)) := by kernel_rfl
theorem ty81 : tinf Try.prog 81 = some ((TypeDesc.struct #[{ name := "do", type := 78, offset := 0, embedded := false, tag := "", pkgPath := "spandrel/disk", byteOffset := 0 }, { name := "data", type := 30, offset := 1, embedded := false, tag := "", pkgPath := "spandrel/disk", byteOffset := 8 }, { name := "cost", type := 3, offset := 2, embedded := false, tag := "", pkgPath := "spandrel/disk", byteOffset := 32 }]), 3, 40, some (.agg #[.nilFunc, .slice none 0 0, .int .i64 0])) := by kernel_rfl
theorem pl81 : plc Try.prog [{ name := "do", type := 78, offset := 0, embedded := false, tag := "", pkgPath := "spandrel/disk", byteOffset := 0 }, { name := "data", type := 30, offset := 1, embedded := false, tag := "", pkgPath := "spandrel/disk", byteOffset := 8 }, { name := "cost", type := 3, offset := 2, embedded := false, tag := "", pkgPath := "spandrel/disk", byteOffset := 32 }] = some [(0, 1), (1, 1), (2, 1)] := by kernel_rfl
theorem ty82 : tinf Try.prog 82 = some ((TypeDesc.struct #[{ name := "do", type := 78, offset := 0, embedded := false, tag := "", pkgPath := "spandrel/disk", byteOffset := 0 }, { name := "data", type := 30, offset := 1, embedded := false, tag := "", pkgPath := "spandrel/disk", byteOffset := 8 }, { name := "cost", type := 3, offset := 2, embedded := false, tag := "", pkgPath := "spandrel/disk", byteOffset := 32 }]), 3, 40, some (.agg #[.nilFunc, .slice none 0 0, .int .i64 0])) := by kernel_rfl
theorem pl82 : plc Try.prog [{ name := "do", type := 78, offset := 0, embedded := false, tag := "", pkgPath := "spandrel/disk", byteOffset := 0 }, { name := "data", type := 30, offset := 1, embedded := false, tag := "", pkgPath := "spandrel/disk", byteOffset := 8 }, { name := "cost", type := 3, offset := 2, embedded := false, tag := "", pkgPath := "spandrel/disk", byteOffset := 32 }] = some [(0, 1), (1, 1), (2, 1)] := by kernel_rfl
theorem ty83 : tinf Try.prog 83 = some ((TypeDesc.slice 97), 1, 24, some (.slice none 0 0)) := by kernel_rfl
theorem ty84 : tinf Try.prog 84 = some ((TypeDesc.slice 92), 1, 24, some (.slice none 0 0)) := by kernel_rfl
theorem ty85 : tinf Try.prog 85 = some ((TypeDesc.struct #[{ name := "Room", type := 3, offset := 0, embedded := false, tag := "", pkgPath := "", byteOffset := 0 }, { name := "L", type := 83, offset := 1, embedded := false, tag := "", pkgPath := "", byteOffset := 8 }, { name := "Acts", type := 84, offset := 2, embedded := false, tag := "", pkgPath := "", byteOffset := 32 }, { name := "Off", type := 4, offset := 3, embedded := false, tag := "", pkgPath := "", byteOffset := 56 }, { name := "N", type := 3, offset := 4, embedded := false, tag := "", pkgPath := "", byteOffset := 64 }, { name := "Keep", type := 3, offset := 5, embedded := false, tag := "", pkgPath := "", byteOffset := 72 }, { name := "Tear", type := 3, offset := 6, embedded := false, tag := "", pkgPath := "", byteOffset := 80 }]), 7, 88, some (.agg #[.int .i64 0, .slice none 0 0, .slice none 0 0, .bool false, .int .i64 0, .int .i64 0, .int .i64 0])) := by kernel_rfl
theorem pl85 : plc Try.prog [{ name := "Room", type := 3, offset := 0, embedded := false, tag := "", pkgPath := "", byteOffset := 0 }, { name := "L", type := 83, offset := 1, embedded := false, tag := "", pkgPath := "", byteOffset := 8 }, { name := "Acts", type := 84, offset := 2, embedded := false, tag := "", pkgPath := "", byteOffset := 32 }, { name := "Off", type := 4, offset := 3, embedded := false, tag := "", pkgPath := "", byteOffset := 56 }, { name := "N", type := 3, offset := 4, embedded := false, tag := "", pkgPath := "", byteOffset := 64 }, { name := "Keep", type := 3, offset := 5, embedded := false, tag := "", pkgPath := "", byteOffset := 72 }, { name := "Tear", type := 3, offset := 6, embedded := false, tag := "", pkgPath := "", byteOffset := 80 }] = some [(0, 1), (1, 1), (2, 1), (3, 1), (4, 1), (5, 1), (6, 1)] := by kernel_rfl
theorem ty86 : tinf Try.prog 86 = some ((TypeDesc.struct #[{ name := "Room", type := 3, offset := 0, embedded := false, tag := "", pkgPath := "", byteOffset := 0 }, { name := "L", type := 83, offset := 1, embedded := false, tag := "", pkgPath := "", byteOffset := 8 }, { name := "Acts", type := 84, offset := 2, embedded := false, tag := "", pkgPath := "", byteOffset := 32 }, { name := "Off", type := 4, offset := 3, embedded := false, tag := "", pkgPath := "", byteOffset := 56 }, { name := "N", type := 3, offset := 4, embedded := false, tag := "", pkgPath := "", byteOffset := 64 }, { name := "Keep", type := 3, offset := 5, embedded := false, tag := "", pkgPath := "", byteOffset := 72 }, { name := "Tear", type := 3, offset := 6, embedded := false, tag := "", pkgPath := "", byteOffset := 80 }]), 7, 88, some (.agg #[.int .i64 0, .slice none 0 0, .slice none 0 0, .bool false, .int .i64 0, .int .i64 0, .int .i64 0])) := by kernel_rfl
theorem pl86 : plc Try.prog [{ name := "Room", type := 3, offset := 0, embedded := false, tag := "", pkgPath := "", byteOffset := 0 }, { name := "L", type := 83, offset := 1, embedded := false, tag := "", pkgPath := "", byteOffset := 8 }, { name := "Acts", type := 84, offset := 2, embedded := false, tag := "", pkgPath := "", byteOffset := 32 }, { name := "Off", type := 4, offset := 3, embedded := false, tag := "", pkgPath := "", byteOffset := 56 }, { name := "N", type := 3, offset := 4, embedded := false, tag := "", pkgPath := "", byteOffset := 64 }, { name := "Keep", type := 3, offset := 5, embedded := false, tag := "", pkgPath := "", byteOffset := 72 }, { name := "Tear", type := 3, offset := 6, embedded := false, tag := "", pkgPath := "", byteOffset := 80 }] = some [(0, 1), (1, 1), (2, 1), (3, 1), (4, 1), (5, 1), (6, 1)] := by kernel_rfl
theorem ty88 : tinf Try.prog 88 = some ((TypeDesc.func #[83, 9] #[30, 4] false), 1, 8, some (.nilFunc)) := by kernel_rfl
theorem ty89 : tinf Try.prog 89 = some ((TypeDesc.func #[] #[83] false), 1, 8, some (.nilFunc)) := by kernel_rfl
theorem ty90 : tinf Try.prog 90 = some ((TypeDesc.func #[92] #[27] false), 1, 8, some (.nilFunc)) := by kernel_rfl
theorem ty91 : tinf Try.prog 91 = some ((TypeDesc.struct #[{ name := "Kind", type := 3, offset := 0, embedded := false, tag := "", pkgPath := "", byteOffset := 0 }, { name := "Name", type := 9, offset := 1, embedded := false, tag := "", pkgPath := "", byteOffset := 8 }, { name := "To", type := 9, offset := 2, embedded := false, tag := "", pkgPath := "", byteOffset := 24 }, { name := "At", type := 3, offset := 3, embedded := false, tag := "", pkgPath := "", byteOffset := 40 }, { name := "B", type := 30, offset := 4, embedded := false, tag := "", pkgPath := "", byteOffset := 48 }]), 5, 72, some (.agg #[.int .i64 0, .string ⟨#[]⟩, .string ⟨#[]⟩, .int .i64 0, .slice none 0 0])) := by kernel_rfl
theorem pl91 : plc Try.prog [{ name := "Kind", type := 3, offset := 0, embedded := false, tag := "", pkgPath := "", byteOffset := 0 }, { name := "Name", type := 9, offset := 1, embedded := false, tag := "", pkgPath := "", byteOffset := 8 }, { name := "To", type := 9, offset := 2, embedded := false, tag := "", pkgPath := "", byteOffset := 24 }, { name := "At", type := 3, offset := 3, embedded := false, tag := "", pkgPath := "", byteOffset := 40 }, { name := "B", type := 30, offset := 4, embedded := false, tag := "", pkgPath := "", byteOffset := 48 }] = some [(0, 1), (1, 1), (2, 1), (3, 1), (4, 1)] := by kernel_rfl
theorem ty92 : tinf Try.prog 92 = some ((TypeDesc.struct #[{ name := "Kind", type := 3, offset := 0, embedded := false, tag := "", pkgPath := "", byteOffset := 0 }, { name := "Name", type := 9, offset := 1, embedded := false, tag := "", pkgPath := "", byteOffset := 8 }, { name := "To", type := 9, offset := 2, embedded := false, tag := "", pkgPath := "", byteOffset := 24 }, { name := "At", type := 3, offset := 3, embedded := false, tag := "", pkgPath := "", byteOffset := 40 }, { name := "B", type := 30, offset := 4, embedded := false, tag := "", pkgPath := "", byteOffset := 48 }]), 5, 72, some (.agg #[.int .i64 0, .string ⟨#[]⟩, .string ⟨#[]⟩, .int .i64 0, .slice none 0 0])) := by kernel_rfl
theorem pl92 : plc Try.prog [{ name := "Kind", type := 3, offset := 0, embedded := false, tag := "", pkgPath := "", byteOffset := 0 }, { name := "Name", type := 9, offset := 1, embedded := false, tag := "", pkgPath := "", byteOffset := 8 }, { name := "To", type := 9, offset := 2, embedded := false, tag := "", pkgPath := "", byteOffset := 24 }, { name := "At", type := 3, offset := 3, embedded := false, tag := "", pkgPath := "", byteOffset := 40 }, { name := "B", type := 30, offset := 4, embedded := false, tag := "", pkgPath := "", byteOffset := 48 }] = some [(0, 1), (1, 1), (2, 1), (3, 1), (4, 1)] := by kernel_rfl
theorem ty93 : tinf Try.prog 93 = some ((TypeDesc.func #[9] #[4] false), 1, 8, some (.nilFunc)) := by kernel_rfl
theorem ty94 : tinf Try.prog 94 = some ((TypeDesc.func #[3, 3] #[] false), 1, 8, some (.nilFunc)) := by kernel_rfl
theorem ty95 : tinf Try.prog 95 = some ((TypeDesc.func #[33, 33] #[4] false), 1, 8, some (.nilFunc)) := by kernel_rfl
theorem ty96 : tinf Try.prog 96 = some ((TypeDesc.struct #[{ name := "Name", type := 9, offset := 0, embedded := false, tag := "", pkgPath := "", byteOffset := 0 }, { name := "B", type := 30, offset := 1, embedded := false, tag := "", pkgPath := "", byteOffset := 16 }]), 2, 40, some (.agg #[.string ⟨#[]⟩, .slice none 0 0])) := by kernel_rfl
theorem pl96 : plc Try.prog [{ name := "Name", type := 9, offset := 0, embedded := false, tag := "", pkgPath := "", byteOffset := 0 }, { name := "B", type := 30, offset := 1, embedded := false, tag := "", pkgPath := "", byteOffset := 16 }] = some [(0, 1), (1, 1)] := by kernel_rfl
theorem ty97 : tinf Try.prog 97 = some ((TypeDesc.struct #[{ name := "Name", type := 9, offset := 0, embedded := false, tag := "", pkgPath := "", byteOffset := 0 }, { name := "B", type := 30, offset := 1, embedded := false, tag := "", pkgPath := "", byteOffset := 16 }]), 2, 40, some (.agg #[.string ⟨#[]⟩, .slice none 0 0])) := by kernel_rfl
theorem pl97 : plc Try.prog [{ name := "Name", type := 9, offset := 0, embedded := false, tag := "", pkgPath := "", byteOffset := 0 }, { name := "B", type := 30, offset := 1, embedded := false, tag := "", pkgPath := "", byteOffset := 16 }] = some [(0, 1), (1, 1)] := by kernel_rfl
theorem ty98 : tinf Try.prog 98 = some ((TypeDesc.func #[33] #[] false), 1, 8, some (.nilFunc)) := by kernel_rfl
theorem ty99 : tinf Try.prog 99 = some ((TypeDesc.func #[83, 92] #[83] false), 1, 8, some (.nilFunc)) := by kernel_rfl
theorem ty100 : tinf Try.prog 100 = some ((TypeDesc.func #[33, 74] #[33] false), 1, 8, some (.nilFunc)) := by kernel_rfl
theorem ty101 : tinf Try.prog 101 = some ((TypeDesc.func #[33, 3, 3, 3] #[] false), 1, 8, some (.nilFunc)) := by kernel_rfl
theorem ty102 : tinf Try.prog 102 = some ((TypeDesc.func #[44] #[3] false), 1, 8, some (.nilFunc)) := by kernel_rfl
theorem ty103 : tinf Try.prog 103 = some ((TypeDesc.func #[83, 9, 30] #[83] false), 1, 8, some (.nilFunc)) := by kernel_rfl
theorem ty104 : tinf Try.prog 104 = some ((TypeDesc.func #[83, 9] #[83] false), 1, 8, some (.nilFunc)) := by kernel_rfl
theorem ty105 : tinf Try.prog 105 = some ((TypeDesc.func #[33, 3, 3] #[] false), 1, 8, some (.nilFunc)) := by kernel_rfl
theorem ty106 : tinf Try.prog 106 = some ((TypeDesc.int IntKind.i64), 1, 8, some (.int .i64 0)) := by kernel_rfl
theorem ty108 : tinf Try.prog 108 = some ((TypeDesc.func #[33, 3, 3] #[3, 106] false), 1, 8, some (.nilFunc)) := by kernel_rfl
theorem ty109 : tinf Try.prog 109 = some ((TypeDesc.func #[33, 3, 3] #[4] false), 1, 8, some (.nilFunc)) := by kernel_rfl
theorem ty110 : tinf Try.prog 110 = some ((TypeDesc.func #[9, 9] #[4] false), 1, 8, some (.nilFunc)) := by kernel_rfl
theorem ty111 : tinf Try.prog 111 = some ((TypeDesc.func #[33, 3, 3, 3] #[3] false), 1, 8, some (.nilFunc)) := by kernel_rfl
theorem ty113 : tinf Try.prog 113 = some ((TypeDesc.func #[33, 3, 3, 3] #[3, 4] false), 1, 8, some (.nilFunc)) := by kernel_rfl
theorem ty114 : tinf Try.prog 114 = some ((TypeDesc.func #[115] #[3] false), 1, 8, some (.nilFunc)) := by kernel_rfl
theorem ty115 : tinf Try.prog 115 = some ((TypeDesc.int IntKind.u32), 1, 4, some (.int .u32 0)) := by kernel_rfl
theorem ty116 : tinf Try.prog 116 = some ((TypeDesc.func #[117] #[3] false), 1, 8, some (.nilFunc)) := by kernel_rfl
theorem ty117 : tinf Try.prog 117 = some ((TypeDesc.int IntKind.u64), 1, 8, some (.int .u64 0)) := by kernel_rfl
theorem ty118 : tinf Try.prog 118 = some ((TypeDesc.int IntKind.u64), 1, 8, some (.int .u64 0)) := by kernel_rfl
theorem ty119 : tinf Try.prog 119 = some ((TypeDesc.func #[3] #[44] false), 1, 8, some (.nilFunc)) := by kernel_rfl
theorem ty120 : tinf Try.prog 120 = some ((TypeDesc.func #[] #[117] false), 1, 8, some (.nilFunc)) := by kernel_rfl
theorem ty121 : tinf Try.prog 121 = some ((TypeDesc.func #[33, 3, 122] #[3] false), 1, 8, some (.nilFunc)) := by kernel_rfl
theorem ty122 : tinf Try.prog 122 = some ((TypeDesc.pointer 3), 1, 8, some (.pointer none)) := by kernel_rfl
theorem ty123 : tinf Try.prog 123 = some ((TypeDesc.func #[33, 3, 3, 3, 122] #[3] false), 1, 8, some (.nilFunc)) := by kernel_rfl
theorem ty124 : tinf Try.prog 124 = some ((TypeDesc.pointer 118), 1, 8, some (.pointer none)) := by kernel_rfl
theorem ty126 : tinf Try.prog 126 = some ((TypeDesc.func #[33, 3, 3, 122] #[3, 3] false), 1, 8, some (.nilFunc)) := by kernel_rfl
theorem ty127 : tinf Try.prog 127 = some ((TypeDesc.func #[] #[9] false), 1, 8, some (.nilFunc)) := by kernel_rfl
theorem ty128 : tinf Try.prog 128 = some ((TypeDesc.struct #[{ name := "_interface", type := 17, offset := 0, embedded := false, tag := "", pkgPath := "runtime", byteOffset := 0 }, { name := "concrete", type := 17, offset := 1, embedded := false, tag := "", pkgPath := "runtime", byteOffset := 8 }, { name := "asserted", type := 17, offset := 2, embedded := false, tag := "", pkgPath := "runtime", byteOffset := 16 }, { name := "missingMethod", type := 9, offset := 3, embedded := false, tag := "", pkgPath := "runtime", byteOffset := 24 }]), 4, 40, some (.agg #[.pointer none, .pointer none, .pointer none, .string ⟨#[]⟩])) := by kernel_rfl
theorem pl128 : plc Try.prog [{ name := "_interface", type := 17, offset := 0, embedded := false, tag := "", pkgPath := "runtime", byteOffset := 0 }, { name := "concrete", type := 17, offset := 1, embedded := false, tag := "", pkgPath := "runtime", byteOffset := 8 }, { name := "asserted", type := 17, offset := 2, embedded := false, tag := "", pkgPath := "runtime", byteOffset := 16 }, { name := "missingMethod", type := 9, offset := 3, embedded := false, tag := "", pkgPath := "runtime", byteOffset := 24 }] = some [(0, 1), (1, 1), (2, 1), (3, 1)] := by kernel_rfl
theorem ty129 : tinf Try.prog 129 = some ((TypeDesc.struct #[{ name := "_interface", type := 17, offset := 0, embedded := false, tag := "", pkgPath := "runtime", byteOffset := 0 }, { name := "concrete", type := 17, offset := 1, embedded := false, tag := "", pkgPath := "runtime", byteOffset := 8 }, { name := "asserted", type := 17, offset := 2, embedded := false, tag := "", pkgPath := "runtime", byteOffset := 16 }, { name := "missingMethod", type := 9, offset := 3, embedded := false, tag := "", pkgPath := "runtime", byteOffset := 24 }]), 4, 40, some (.agg #[.pointer none, .pointer none, .pointer none, .string ⟨#[]⟩])) := by kernel_rfl
theorem pl129 : plc Try.prog [{ name := "_interface", type := 17, offset := 0, embedded := false, tag := "", pkgPath := "runtime", byteOffset := 0 }, { name := "concrete", type := 17, offset := 1, embedded := false, tag := "", pkgPath := "runtime", byteOffset := 8 }, { name := "asserted", type := 17, offset := 2, embedded := false, tag := "", pkgPath := "runtime", byteOffset := 16 }, { name := "missingMethod", type := 9, offset := 3, embedded := false, tag := "", pkgPath := "runtime", byteOffset := 24 }] = some [(0, 1), (1, 1), (2, 1), (3, 1)] := by kernel_rfl
theorem ty130 : tinf Try.prog 130 = some ((TypeDesc.array 0 16), 0, 0, some (.agg #[])) := by kernel_rfl
theorem ty131 : tinf Try.prog 131 = some ((TypeDesc.struct #[{ name := "_", type := 130, offset := 0, embedded := false, tag := "", pkgPath := "runtime", byteOffset := 0 }]), 0, 0, some (.agg #[])) := by kernel_rfl
theorem pl131 : plc Try.prog [{ name := "_", type := 130, offset := 0, embedded := false, tag := "", pkgPath := "runtime", byteOffset := 0 }] = some [(0, 0)] := by kernel_rfl
theorem ty132 : tinf Try.prog 132 = some ((TypeDesc.struct #[{ name := "_", type := 130, offset := 0, embedded := false, tag := "", pkgPath := "runtime", byteOffset := 0 }]), 0, 0, some (.agg #[])) := by kernel_rfl
theorem pl132 : plc Try.prog [{ name := "_", type := 130, offset := 0, embedded := false, tag := "", pkgPath := "runtime", byteOffset := 0 }] = some [(0, 0)] := by kernel_rfl
theorem ty133 : tinf Try.prog 133 = some ((TypeDesc.int IntKind.u8), 1, 1, some (.int .u8 0)) := by kernel_rfl
theorem ty134 : tinf Try.prog 134 = some ((TypeDesc.int IntKind.u8), 1, 1, some (.int .u8 0)) := by kernel_rfl
theorem ty135 : tinf Try.prog 135 = some ((TypeDesc.func #[141, 141] #[4] false), 1, 8, some (.nilFunc)) := by kernel_rfl
theorem pf2 : plainFn Try.prog 2 = true := by kernel_rfl
theorem pf3 : plainFn Try.prog 3 = true := by kernel_rfl
theorem pf4 : plainFn Try.prog 4 = true := by kernel_rfl
theorem pf5 : plainFn Try.prog 5 = true := by kernel_rfl
theorem pf6 : plainFn Try.prog 6 = true := by kernel_rfl
theorem pf7 : plainFn Try.prog 7 = true := by kernel_rfl
theorem pf8 : plainFn Try.prog 8 = true := by kernel_rfl
theorem pf9 : plainFn Try.prog 9 = true := by kernel_rfl
theorem pf10 : plainFn Try.prog 10 = true := by kernel_rfl
theorem pf11 : plainFn Try.prog 11 = true := by kernel_rfl
theorem pf12 : plainFn Try.prog 12 = true := by kernel_rfl
theorem pf13 : plainFn Try.prog 13 = true := by kernel_rfl
theorem pf14 : plainFn Try.prog 14 = true := by kernel_rfl
theorem pf15 : plainFn Try.prog 15 = true := by kernel_rfl
theorem pf16 : plainFn Try.prog 16 = true := by kernel_rfl
theorem pf17 : plainFn Try.prog 17 = true := by kernel_rfl
theorem pf18 : plainFn Try.prog 18 = true := by kernel_rfl
theorem pf19 : plainFn Try.prog 19 = true := by kernel_rfl
theorem pf20 : plainFn Try.prog 20 = true := by kernel_rfl
theorem pf21 : plainFn Try.prog 21 = true := by kernel_rfl
theorem pf22 : plainFn Try.prog 22 = true := by kernel_rfl
theorem pf23 : plainFn Try.prog 23 = true := by kernel_rfl
theorem pf24 : plainFn Try.prog 24 = true := by kernel_rfl
theorem pf25 : plainFn Try.prog 25 = true := by kernel_rfl
theorem pf26 : plainFn Try.prog 26 = true := by kernel_rfl
theorem pf27 : plainFn Try.prog 27 = true := by kernel_rfl
theorem pf28 : plainFn Try.prog 28 = true := by kernel_rfl
theorem pf29 : plainFn Try.prog 29 = true := by kernel_rfl
theorem pf30 : plainFn Try.prog 30 = true := by kernel_rfl
theorem pf31 : plainFn Try.prog 31 = true := by kernel_rfl
theorem pf32 : plainFn Try.prog 32 = true := by kernel_rfl
theorem pf33 : plainFn Try.prog 33 = true := by kernel_rfl
theorem pf34 : plainFn Try.prog 34 = true := by kernel_rfl
theorem pf35 : plainFn Try.prog 35 = true := by kernel_rfl
theorem pf36 : plainFn Try.prog 36 = true := by kernel_rfl
theorem pf37 : plainFn Try.prog 37 = true := by kernel_rfl
theorem pf38 : plainFn Try.prog 38 = true := by kernel_rfl
theorem pf39 : plainFn Try.prog 39 = true := by kernel_rfl
theorem pf40 : plainFn Try.prog 40 = true := by kernel_rfl
theorem pf41 : plainFn Try.prog 41 = true := by kernel_rfl
theorem pf42 : plainFn Try.prog 42 = true := by kernel_rfl
theorem pf43 : plainFn Try.prog 43 = true := by kernel_rfl
theorem pf44 : plainFn Try.prog 44 = true := by kernel_rfl
theorem pf45 : plainFn Try.prog 45 = true := by kernel_rfl
theorem pf46 : plainFn Try.prog 46 = true := by kernel_rfl
theorem pf47 : plainFn Try.prog 47 = true := by kernel_rfl
theorem pf48 : plainFn Try.prog 48 = true := by kernel_rfl
theorem pf49 : plainFn Try.prog 49 = true := by kernel_rfl
theorem pf50 : plainFn Try.prog 50 = true := by kernel_rfl
theorem pf51 : plainFn Try.prog 51 = true := by kernel_rfl
theorem pf52 : plainFn Try.prog 52 = true := by kernel_rfl
theorem pf53 : plainFn Try.prog 53 = true := by kernel_rfl
theorem pf54 : plainFn Try.prog 54 = true := by kernel_rfl
theorem pf55 : plainFn Try.prog 55 = true := by kernel_rfl
theorem pf56 : plainFn Try.prog 56 = true := by kernel_rfl
theorem pf57 : plainFn Try.prog 57 = true := by kernel_rfl
theorem pf58 : plainFn Try.prog 58 = true := by kernel_rfl
theorem pf59 : plainFn Try.prog 59 = true := by kernel_rfl
theorem pf60 : plainFn Try.prog 60 = true := by kernel_rfl
theorem pf61 : plainFn Try.prog 61 = true := by kernel_rfl
theorem pf62 : plainFn Try.prog 62 = true := by kernel_rfl
theorem pf63 : plainFn Try.prog 63 = true := by kernel_rfl
theorem pf64 : plainFn Try.prog 64 = true := by kernel_rfl
theorem pf65 : plainFn Try.prog 65 = true := by kernel_rfl
theorem pf66 : plainFn Try.prog 66 = true := by kernel_rfl
theorem pf67 : plainFn Try.prog 67 = true := by kernel_rfl
theorem pf68 : plainFn Try.prog 68 = true := by kernel_rfl
theorem pf69 : plainFn Try.prog 69 = true := by kernel_rfl
theorem pf70 : plainFn Try.prog 70 = true := by kernel_rfl
theorem pf71 : plainFn Try.prog 71 = true := by kernel_rfl
theorem pf72 : plainFn Try.prog 72 = true := by kernel_rfl
theorem pf73 : plainFn Try.prog 73 = true := by kernel_rfl
theorem pf74 : plainFn Try.prog 74 = true := by kernel_rfl
theorem pf75 : plainFn Try.prog 75 = true := by kernel_rfl
theorem pf76 : plainFn Try.prog 76 = true := by kernel_rfl
theorem pf77 : plainFn Try.prog 77 = true := by kernel_rfl
theorem pf78 : plainFn Try.prog 78 = true := by kernel_rfl
theorem pf79 : plainFn Try.prog 79 = true := by kernel_rfl
theorem pf80 : plainFn Try.prog 80 = true := by kernel_rfl
theorem pf81 : plainFn Try.prog 81 = true := by kernel_rfl
theorem pf82 : plainFn Try.prog 82 = true := by kernel_rfl
theorem pf83 : plainFn Try.prog 83 = true := by kernel_rfl
theorem pf84 : plainFn Try.prog 84 = true := by kernel_rfl
theorem pf85 : plainFn Try.prog 85 = true := by kernel_rfl
theorem pf86 : plainFn Try.prog 86 = true := by kernel_rfl
theorem pf87 : plainFn Try.prog 87 = true := by kernel_rfl
theorem pf88 : plainFn Try.prog 88 = true := by kernel_rfl
theorem pf89 : plainFn Try.prog 89 = true := by kernel_rfl
theorem pf90 : plainFn Try.prog 90 = true := by kernel_rfl
theorem pf91 : plainFn Try.prog 91 = true := by kernel_rfl
theorem pf92 : plainFn Try.prog 92 = true := by kernel_rfl
theorem pf93 : plainFn Try.prog 93 = true := by kernel_rfl
theorem pf94 : plainFn Try.prog 94 = true := by kernel_rfl
theorem pf95 : plainFn Try.prog 95 = true := by kernel_rfl
theorem pf96 : plainFn Try.prog 96 = true := by kernel_rfl
end Go.Proofs.Ytahjgjmemijofaa.Eng
