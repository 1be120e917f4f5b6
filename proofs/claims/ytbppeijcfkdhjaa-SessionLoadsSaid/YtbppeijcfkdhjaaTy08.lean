/- What each type of the translation is: closed facts. -/
import Derived.Test.YtbppeijcfkdhjaaOps
import Derived.Test.YtbppeijcfkdhjaaProg
import Derived.KernelRfl
namespace Go.Proofs.Ytbppeijcfkdhjaa.Eng
open Go
theorem ty1 : tinf Try.prog 1 = some ((TypeDesc.func #[] #[] false), 1, 8, some (.nilFunc)) := by kernel_rfl
theorem ty2 : tinf Try.prog 2 = some ((TypeDesc.int IntKind.i64), 1, 8, some (.int .i64 0)) := by kernel_rfl
theorem ty3 : tinf Try.prog 3 = some ((TypeDesc.int IntKind.i64), 1, 8, some (.int .i64 0)) := by kernel_rfl
theorem ty4 : tinf Try.prog 4 = some (TypeDesc.bool, 1, 1, some (.bool false)) := by kernel_rfl
theorem ty5 : tinf Try.prog 5 = some ((TypeDesc.int IntKind.u8), 1, 1, some (.int .u8 0)) := by kernel_rfl
theorem ty6 : tinf Try.prog 6 = some ((TypeDesc.int IntKind.u8), 1, 1, some (.int .u8 0)) := by kernel_rfl
theorem ty7 : tinf Try.prog 7 = some ((TypeDesc.struct #[{ name := "x", type := 2, offset := 0, embedded := false, tag := "", pkgPath := "runtime", byteOffset := 0 }, { name := "y", type := 3, offset := 1, embedded := false, tag := "", pkgPath := "runtime", byteOffset := 8 }, { name := "signed", type := 4, offset := 2, embedded := false, tag := "", pkgPath := "runtime", byteOffset := 16 }, { name := "code", type := 6, offset := 3, embedded := false, tag := "", pkgPath := "runtime", byteOffset := 17 }]), 4, 24, some (.agg #[.int .i64 0, .int .i64 0, .bool false, .int .u8 0])) := by kernel_rfl
theorem pl7 : plc Try.prog [{ name := "x", type := 2, offset := 0, embedded := false, tag := "", pkgPath := "runtime", byteOffset := 0 }, { name := "y", type := 3, offset := 1, embedded := false, tag := "", pkgPath := "runtime", byteOffset := 8 }, { name := "signed", type := 4, offset := 2, embedded := false, tag := "", pkgPath := "runtime", byteOffset := 16 }, { name := "code", type := 6, offset := 3, embedded := false, tag := "", pkgPath := "runtime", byteOffset := 17 }] = some [(0, 1), (1, 1), (2, 1), (3, 1)] := by kernel_rfl
theorem ty8 : tinf Try.prog 8 = some ((TypeDesc.struct #[{ name := "x", type := 2, offset := 0, embedded := false, tag := "", pkgPath := "runtime", byteOffset := 0 }, { name := "y", type := 3, offset := 1, embedded := false, tag := "", pkgPath := "runtime", byteOffset := 8 }, { name := "signed", type := 4, offset := 2, embedded := false, tag := "", pkgPath := "runtime", byteOffset := 16 }, { name := "code", type := 6, offset := 3, embedded := false, tag := "", pkgPath := "runtime", byteOffset := 17 }]), 4, 24, some (.agg #[.int .i64 0, .int .i64 0, .bool false, .int .u8 0])) := by kernel_rfl
theorem pl8 : plc Try.prog [{ name := "x", type := 2, offset := 0, embedded := false, tag := "", pkgPath := "runtime", byteOffset := 0 }, { name := "y", type := 3, offset := 1, embedded := false, tag := "", pkgPath := "runtime", byteOffset := 8 }, { name := "signed", type := 4, offset := 2, embedded := false, tag := "", pkgPath := "runtime", byteOffset := 16 }, { name := "code", type := 6, offset := 3, embedded := false, tag := "", pkgPath := "runtime", byteOffset := 17 }] = some [(0, 1), (1, 1), (2, 1), (3, 1)] := by kernel_rfl
theorem ty9 : tinf Try.prog 9 = some (TypeDesc.string, 1, 16, some (.string ⟨#[]⟩)) := by kernel_rfl
theorem ty10 : tinf Try.prog 10 = some (TypeDesc.string, 1, 16, some (.string ⟨#[]⟩)) := by kernel_rfl
theorem ty11 : tinf Try.prog 11 = some (TypeDesc.string, 1, 16, some (.string ⟨#[]⟩)) := by kernel_rfl
theorem ty12 : tinf Try.prog 12 = some ((TypeDesc.int IntKind.u64), 1, 8, some (.int .u64 0)) := by kernel_rfl
theorem ty13 : tinf Try.prog 13 = some ((TypeDesc.struct #[{ name := "msg", type := 9, offset := 0, embedded := false, tag := "", pkgPath := "runtime", byteOffset := 0 }, { name := "addr", type := 12, offset := 1, embedded := false, tag := "", pkgPath := "runtime", byteOffset := 16 }]), 2, 24, some (.agg #[.string ⟨#[]⟩, .int .u64 0])) := by kernel_rfl
theorem pl13 : plc Try.prog [{ name := "msg", type := 9, offset := 0, embedded := false, tag := "", pkgPath := "runtime", byteOffset := 0 }, { name := "addr", type := 12, offset := 1, embedded := false, tag := "", pkgPath := "runtime", byteOffset := 16 }] = some [(0, 1), (1, 1)] := by kernel_rfl
theorem ty14 : tinf Try.prog 14 = some ((TypeDesc.struct #[{ name := "msg", type := 9, offset := 0, embedded := false, tag := "", pkgPath := "runtime", byteOffset := 0 }, { name := "addr", type := 12, offset := 1, embedded := false, tag := "", pkgPath := "runtime", byteOffset := 16 }]), 2, 24, some (.agg #[.string ⟨#[]⟩, .int .u64 0])) := by kernel_rfl
theorem pl14 : plc Try.prog [{ name := "msg", type := 9, offset := 0, embedded := false, tag := "", pkgPath := "runtime", byteOffset := 0 }, { name := "addr", type := 12, offset := 1, embedded := false, tag := "", pkgPath := "runtime", byteOffset := 16 }] = some [(0, 1), (1, 1)] := by kernel_rfl
theorem ty15 : tinf Try.prog 15 = some ((TypeDesc.pointer 134), 1, 8, some (.pointer none)) := by kernel_rfl
theorem ty16 : tinf Try.prog 16 = some ((TypeDesc.pointer 137), 1, 8, some (.pointer none)) := by kernel_rfl
theorem ty17 : tinf Try.prog 17 = some ((TypeDesc.pointer 145), 1, 8, some (.pointer none)) := by kernel_rfl
theorem ty18 : tinf Try.prog 18 = some ((TypeDesc.struct #[{ name := "typ", type := 17, offset := 0, embedded := false, tag := "", pkgPath := "internal/runtime/maps", byteOffset := 0 }]), 1, 8, some (.agg #[.pointer none])) := by kernel_rfl
theorem pl18 : plc Try.prog [{ name := "typ", type := 17, offset := 0, embedded := false, tag := "", pkgPath := "internal/runtime/maps", byteOffset := 0 }] = some [(0, 1)] := by kernel_rfl
theorem ty19 : tinf Try.prog 19 = some ((TypeDesc.struct #[{ name := "typ", type := 17, offset := 0, embedded := false, tag := "", pkgPath := "internal/runtime/maps", byteOffset := 0 }]), 1, 8, some (.agg #[.pointer none])) := by kernel_rfl
theorem pl19 : plc Try.prog [{ name := "typ", type := 17, offset := 0, embedded := false, tag := "", pkgPath := "internal/runtime/maps", byteOffset := 0 }] = some [(0, 1)] := by kernel_rfl
theorem ty20 : tinf Try.prog 20 = some ((TypeDesc.interface #[]), 1, 16, some (.nilIface)) := by kernel_rfl
theorem ty21 : tinf Try.prog 21 = some ((TypeDesc.int IntKind.i32), 1, 4, some (.int .i32 0)) := by kernel_rfl
theorem ty22 : tinf Try.prog 22 = some ((TypeDesc.slice 41), 1, 24, some (.slice none 0 0)) := by kernel_rfl
theorem ty23 : tinf Try.prog 23 = some ((TypeDesc.func #[] #[4] false), 1, 8, some (.nilFunc)) := by kernel_rfl
theorem ty24 : tinf Try.prog 24 = some ((TypeDesc.pointer 45), 1, 8, some (.pointer none)) := by kernel_rfl
theorem ty25 : tinf Try.prog 25 = some ((TypeDesc.func #[22] #[24] false), 1, 8, some (.nilFunc)) := by kernel_rfl
theorem ty26 : tinf Try.prog 26 = some ((TypeDesc.slice 35), 1, 24, some (.slice none 0 0)) := by kernel_rfl
theorem ty27 : tinf Try.prog 27 = some ((TypeDesc.func #[] #[26] false), 1, 8, some (.nilFunc)) := by kernel_rfl
theorem ty28 : tinf Try.prog 28 = some ((TypeDesc.func #[3] #[3] false), 1, 8, some (.nilFunc)) := by kernel_rfl
theorem ty29 : tinf Try.prog 29 = some ((TypeDesc.int IntKind.i64), 1, 8, some (.int .i64 0)) := by kernel_rfl
theorem ty30 : tinf Try.prog 30 = some ((TypeDesc.struct #[{ name := "Added", type := 3, offset := 0, embedded := false, tag := "", pkgPath := "", byteOffset := 0 }, { name := "Same", type := 3, offset := 1, embedded := false, tag := "", pkgPath := "", byteOffset := 8 }, { name := "Other", type := 3, offset := 2, embedded := false, tag := "", pkgPath := "", byteOffset := 16 }, { name := "Cycle", type := 3, offset := 3, embedded := false, tag := "", pkgPath := "", byteOffset := 24 }, { name := "Full", type := 3, offset := 4, embedded := false, tag := "", pkgPath := "", byteOffset := 32 }]), 5, 40, some (.agg #[.int .i64 0, .int .i64 0, .int .i64 0, .int .i64 0, .int .i64 0])) := by kernel_rfl
theorem pl30 : plc Try.prog [{ name := "Added", type := 3, offset := 0, embedded := false, tag := "", pkgPath := "", byteOffset := 0 }, { name := "Same", type := 3, offset := 1, embedded := false, tag := "", pkgPath := "", byteOffset := 8 }, { name := "Other", type := 3, offset := 2, embedded := false, tag := "", pkgPath := "", byteOffset := 16 }, { name := "Cycle", type := 3, offset := 3, embedded := false, tag := "", pkgPath := "", byteOffset := 24 }, { name := "Full", type := 3, offset := 4, embedded := false, tag := "", pkgPath := "", byteOffset := 32 }] = some [(0, 1), (1, 1), (2, 1), (3, 1), (4, 1)] := by kernel_rfl
theorem ty31 : tinf Try.prog 31 = some ((TypeDesc.struct #[{ name := "Added", type := 3, offset := 0, embedded := false, tag := "", pkgPath := "", byteOffset := 0 }, { name := "Same", type := 3, offset := 1, embedded := false, tag := "", pkgPath := "", byteOffset := 8 }, { name := "Other", type := 3, offset := 2, embedded := false, tag := "", pkgPath := "", byteOffset := 16 }, { name := "Cycle", type := 3, offset := 3, embedded := false, tag := "", pkgPath := "", byteOffset := 24 }, { name := "Full", type := 3, offset := 4, embedded := false, tag := "", pkgPath := "", byteOffset := 32 }]), 5, 40, some (.agg #[.int .i64 0, .int .i64 0, .int .i64 0, .int .i64 0, .int .i64 0])) := by kernel_rfl
theorem pl31 : plc Try.prog [{ name := "Added", type := 3, offset := 0, embedded := false, tag := "", pkgPath := "", byteOffset := 0 }, { name := "Same", type := 3, offset := 1, embedded := false, tag := "", pkgPath := "", byteOffset := 8 }, { name := "Other", type := 3, offset := 2, embedded := false, tag := "", pkgPath := "", byteOffset := 16 }, { name := "Cycle", type := 3, offset := 3, embedded := false, tag := "", pkgPath := "", byteOffset := 24 }, { name := "Full", type := 3, offset := 4, embedded := false, tag := "", pkgPath := "", byteOffset := 32 }] = some [(0, 1), (1, 1), (2, 1), (3, 1), (4, 1)] := by kernel_rfl
theorem ty32 : tinf Try.prog 32 = some ((TypeDesc.struct #[{ name := "Err", type := 29, offset := 0, embedded := false, tag := "", pkgPath := "", byteOffset := 0 }, { name := "Session", type := 3, offset := 1, embedded := false, tag := "", pkgPath := "", byteOffset := 8 }, { name := "Gone", type := 3, offset := 2, embedded := false, tag := "", pkgPath := "", byteOffset := 16 }, { name := "Counts", type := 31, offset := 3, embedded := false, tag := "", pkgPath := "", byteOffset := 24 }]), 8, 64, some (.agg #[.int .i64 0, .int .i64 0, .int .i64 0, .int .i64 0, .int .i64 0, .int .i64 0, .int .i64 0, .int .i64 0])) := by kernel_rfl
theorem pl32 : plc Try.prog [{ name := "Err", type := 29, offset := 0, embedded := false, tag := "", pkgPath := "", byteOffset := 0 }, { name := "Session", type := 3, offset := 1, embedded := false, tag := "", pkgPath := "", byteOffset := 8 }, { name := "Gone", type := 3, offset := 2, embedded := false, tag := "", pkgPath := "", byteOffset := 16 }, { name := "Counts", type := 31, offset := 3, embedded := false, tag := "", pkgPath := "", byteOffset := 24 }] = some [(0, 1), (1, 1), (2, 1), (3, 5)] := by kernel_rfl
theorem ty33 : tinf Try.prog 33 = some ((TypeDesc.struct #[{ name := "Err", type := 29, offset := 0, embedded := false, tag := "", pkgPath := "", byteOffset := 0 }, { name := "Session", type := 3, offset := 1, embedded := false, tag := "", pkgPath := "", byteOffset := 8 }, { name := "Gone", type := 3, offset := 2, embedded := false, tag := "", pkgPath := "", byteOffset := 16 }, { name := "Counts", type := 31, offset := 3, embedded := false, tag := "", pkgPath := "", byteOffset := 24 }]), 8, 64, some (.agg #[.int .i64 0, .int .i64 0, .int .i64 0, .int .i64 0, .int .i64 0, .int .i64 0, .int .i64 0, .int .i64 0])) := by kernel_rfl
theorem pl33 : plc Try.prog [{ name := "Err", type := 29, offset := 0, embedded := false, tag := "", pkgPath := "", byteOffset := 0 }, { name := "Session", type := 3, offset := 1, embedded := false, tag := "", pkgPath := "", byteOffset := 8 }, { name := "Gone", type := 3, offset := 2, embedded := false, tag := "", pkgPath := "", byteOffset := 16 }, { name := "Counts", type := 31, offset := 3, embedded := false, tag := "", pkgPath := "", byteOffset := 24 }] = some [(0, 1), (1, 1), (2, 1), (3, 5)] := by kernel_rfl
theorem ty34 : tinf Try.prog 34 = some ((TypeDesc.struct #[{ name := "Session", type := 3, offset := 0, embedded := false, tag := "", pkgPath := "", byteOffset := 0 }, { name := "Seq", type := 3, offset := 1, embedded := false, tag := "", pkgPath := "", byteOffset := 8 }, { name := "At", type := 3, offset := 2, embedded := false, tag := "", pkgPath := "", byteOffset := 16 }, { name := "Reply", type := 33, offset := 3, embedded := false, tag := "", pkgPath := "", byteOffset := 24 }]), 11, 88, some (.agg #[.int .i64 0, .int .i64 0, .int .i64 0, .int .i64 0, .int .i64 0, .int .i64 0, .int .i64 0, .int .i64 0, .int .i64 0, .int .i64 0, .int .i64 0])) := by kernel_rfl
theorem pl34 : plc Try.prog [{ name := "Session", type := 3, offset := 0, embedded := false, tag := "", pkgPath := "", byteOffset := 0 }, { name := "Seq", type := 3, offset := 1, embedded := false, tag := "", pkgPath := "", byteOffset := 8 }, { name := "At", type := 3, offset := 2, embedded := false, tag := "", pkgPath := "", byteOffset := 16 }, { name := "Reply", type := 33, offset := 3, embedded := false, tag := "", pkgPath := "", byteOffset := 24 }] = some [(0, 1), (1, 1), (2, 1), (3, 8)] := by kernel_rfl
theorem ty35 : tinf Try.prog 35 = some ((TypeDesc.struct #[{ name := "Session", type := 3, offset := 0, embedded := false, tag := "", pkgPath := "", byteOffset := 0 }, { name := "Seq", type := 3, offset := 1, embedded := false, tag := "", pkgPath := "", byteOffset := 8 }, { name := "At", type := 3, offset := 2, embedded := false, tag := "", pkgPath := "", byteOffset := 16 }, { name := "Reply", type := 33, offset := 3, embedded := false, tag := "", pkgPath := "", byteOffset := 24 }]), 11, 88, some (.agg #[.int .i64 0, .int .i64 0, .int .i64 0, .int .i64 0, .int .i64 0, .int .i64 0, .int .i64 0, .int .i64 0, .int .i64 0, .int .i64 0, .int .i64 0])) := by kernel_rfl
theorem pl35 : plc Try.prog [{ name := "Session", type := 3, offset := 0, embedded := false, tag := "", pkgPath := "", byteOffset := 0 }, { name := "Seq", type := 3, offset := 1, embedded := false, tag := "", pkgPath := "", byteOffset := 8 }, { name := "At", type := 3, offset := 2, embedded := false, tag := "", pkgPath := "", byteOffset := 16 }, { name := "Reply", type := 33, offset := 3, embedded := false, tag := "", pkgPath := "", byteOffset := 24 }] = some [(0, 1), (1, 1), (2, 1), (3, 8)] := by kernel_rfl
theorem ty37 : tinf Try.prog 37 = some ((TypeDesc.func #[3, 3] #[33, 4, 29] false), 1, 8, some (.nilFunc)) := by kernel_rfl
theorem ty38 : tinf Try.prog 38 = some ((TypeDesc.func #[26, 26] #[4] false), 1, 8, some (.nilFunc)) := by kernel_rfl
theorem ty39 : tinf Try.prog 39 = some ((TypeDesc.func #[22, 3] #[4] false), 1, 8, some (.nilFunc)) := by kernel_rfl
theorem ty40 : tinf Try.prog 40 = some ((TypeDesc.struct #[{ name := "Op", type := 3, offset := 0, embedded := false, tag := "", pkgPath := "", byteOffset := 0 }, { name := "Session", type := 3, offset := 1, embedded := false, tag := "", pkgPath := "", byteOffset := 8 }, { name := "Seq", type := 3, offset := 2, embedded := false, tag := "", pkgPath := "", byteOffset := 16 }, { name := "At", type := 3, offset := 3, embedded := false, tag := "", pkgPath := "", byteOffset := 24 }, { name := "R", type := 33, offset := 4, embedded := false, tag := "", pkgPath := "", byteOffset := 32 }]), 12, 96, some (.agg #[.int .i64 0, .int .i64 0, .int .i64 0, .int .i64 0, .int .i64 0, .int .i64 0, .int .i64 0, .int .i64 0, .int .i64 0, .int .i64 0, .int .i64 0, .int .i64 0])) := by kernel_rfl
theorem pl40 : plc Try.prog [{ name := "Op", type := 3, offset := 0, embedded := false, tag := "", pkgPath := "", byteOffset := 0 }, { name := "Session", type := 3, offset := 1, embedded := false, tag := "", pkgPath := "", byteOffset := 8 }, { name := "Seq", type := 3, offset := 2, embedded := false, tag := "", pkgPath := "", byteOffset := 16 }, { name := "At", type := 3, offset := 3, embedded := false, tag := "", pkgPath := "", byteOffset := 24 }, { name := "R", type := 33, offset := 4, embedded := false, tag := "", pkgPath := "", byteOffset := 32 }] = some [(0, 1), (1, 1), (2, 1), (3, 1), (4, 8)] := by kernel_rfl
theorem ty41 : tinf Try.prog 41 = some ((TypeDesc.struct #[{ name := "Op", type := 3, offset := 0, embedded := false, tag := "", pkgPath := "", byteOffset := 0 }, { name := "Session", type := 3, offset := 1, embedded := false, tag := "", pkgPath := "", byteOffset := 8 }, { name := "Seq", type := 3, offset := 2, embedded := false, tag := "", pkgPath := "", byteOffset := 16 }, { name := "At", type := 3, offset := 3, embedded := false, tag := "", pkgPath := "", byteOffset := 24 }, { name := "R", type := 33, offset := 4, embedded := false, tag := "", pkgPath := "", byteOffset := 32 }]), 12, 96, some (.agg #[.int .i64 0, .int .i64 0, .int .i64 0, .int .i64 0, .int .i64 0, .int .i64 0, .int .i64 0, .int .i64 0, .int .i64 0, .int .i64 0, .int .i64 0, .int .i64 0])) := by kernel_rfl
theorem pl41 : plc Try.prog [{ name := "Op", type := 3, offset := 0, embedded := false, tag := "", pkgPath := "", byteOffset := 0 }, { name := "Session", type := 3, offset := 1, embedded := false, tag := "", pkgPath := "", byteOffset := 8 }, { name := "Seq", type := 3, offset := 2, embedded := false, tag := "", pkgPath := "", byteOffset := 16 }, { name := "At", type := 3, offset := 3, embedded := false, tag := "", pkgPath := "", byteOffset := 24 }, { name := "R", type := 33, offset := 4, embedded := false, tag := "", pkgPath := "", byteOffset := 32 }] = some [(0, 1), (1, 1), (2, 1), (3, 1), (4, 8)] := by kernel_rfl
theorem ty42 : tinf Try.prog 42 = some ((TypeDesc.map 3 35), 1, 8, some (.map none)) := by kernel_rfl
theorem ty43 : tinf Try.prog 43 = some ((TypeDesc.map 3 35), 1, 8, some (.map none)) := by kernel_rfl
theorem ty44 : tinf Try.prog 44 = some ((TypeDesc.struct #[{ name := "seats", type := 43, offset := 0, embedded := true, tag := "", pkgPath := "spandrel/session", byteOffset := 0 }]), 1, 8, some (.agg #[.map none])) := by kernel_rfl
theorem pl44 : plc Try.prog [{ name := "seats", type := 43, offset := 0, embedded := true, tag := "", pkgPath := "spandrel/session", byteOffset := 0 }] = some [(0, 1)] := by kernel_rfl
theorem ty45 : tinf Try.prog 45 = some ((TypeDesc.struct #[{ name := "seats", type := 43, offset := 0, embedded := true, tag := "", pkgPath := "spandrel/session", byteOffset := 0 }]), 1, 8, some (.agg #[.map none])) := by kernel_rfl
theorem pl45 : plc Try.prog [{ name := "seats", type := 43, offset := 0, embedded := true, tag := "", pkgPath := "spandrel/session", byteOffset := 0 }] = some [(0, 1)] := by kernel_rfl
theorem ty46 : tinf Try.prog 46 = some ((TypeDesc.slice 24), 1, 24, some (.slice none 0 0)) := by kernel_rfl
theorem ty47 : tinf Try.prog 47 = some ((TypeDesc.func #[3] #[29] false), 1, 8, some (.nilFunc)) := by kernel_rfl
theorem ty48 : tinf Try.prog 48 = some ((TypeDesc.func #[3, 3, 3, 33] #[29] false), 1, 8, some (.nilFunc)) := by kernel_rfl
theorem ty49 : tinf Try.prog 49 = some ((TypeDesc.slice 5), 1, 24, some (.slice none 0 0)) := by kernel_rfl
theorem ty50 : tinf Try.prog 50 = some ((TypeDesc.func #[] #[49] false), 1, 8, some (.nilFunc)) := by kernel_rfl
theorem ty51 : tinf Try.prog 51 = some ((TypeDesc.func #[] #[24] false), 1, 8, some (.nilFunc)) := by kernel_rfl
theorem ty52 : tinf Try.prog 52 = some ((TypeDesc.func #[41] #[4] false), 1, 8, some (.nilFunc)) := by kernel_rfl
theorem ty53 : tinf Try.prog 53 = some ((TypeDesc.pointer 55), 1, 8, some (.pointer none)) := by kernel_rfl
theorem ty54 : tinf Try.prog 54 = some ((TypeDesc.struct #[{ name := "L", type := 26, offset := 0, embedded := false, tag := "", pkgPath := "", byteOffset := 0 }]), 1, 24, some (.agg #[.slice none 0 0])) := by kernel_rfl
theorem pl54 : plc Try.prog [{ name := "L", type := 26, offset := 0, embedded := false, tag := "", pkgPath := "", byteOffset := 0 }] = some [(0, 1)] := by kernel_rfl
theorem ty55 : tinf Try.prog 55 = some ((TypeDesc.struct #[{ name := "L", type := 26, offset := 0, embedded := false, tag := "", pkgPath := "", byteOffset := 0 }]), 1, 24, some (.agg #[.slice none 0 0])) := by kernel_rfl
theorem pl55 : plc Try.prog [{ name := "L", type := 26, offset := 0, embedded := false, tag := "", pkgPath := "", byteOffset := 0 }] = some [(0, 1)] := by kernel_rfl
theorem ty56 : tinf Try.prog 56 = some ((TypeDesc.int IntKind.u64), 1, 8, some (.int .u64 0)) := by kernel_rfl
theorem ty57 : tinf Try.prog 57 = some ((TypeDesc.func #[24, 53] #[4] false), 1, 8, some (.nilFunc)) := by kernel_rfl
theorem ty58 : tinf Try.prog 58 = some ((TypeDesc.func #[22] #[4] false), 1, 8, some (.nilFunc)) := by kernel_rfl
theorem ty60 : tinf Try.prog 60 = some ((TypeDesc.func #[49] #[24, 29] false), 1, 8, some (.nilFunc)) := by kernel_rfl
theorem ty61 : tinf Try.prog 61 = some ((TypeDesc.func #[49, 49] #[4] false), 1, 8, some (.nilFunc)) := by kernel_rfl
theorem ty62 : tinf Try.prog 62 = some ((TypeDesc.func #[22, 49] #[4] false), 1, 8, some (.nilFunc)) := by kernel_rfl
theorem ty63 : tinf Try.prog 63 = some ((TypeDesc.func #[49] #[49] false), 1, 8, some (.nilFunc)) := by kernel_rfl
theorem ty65 : tinf Try.prog 65 = some ((TypeDesc.func #[49] #[53, 29] false), 1, 8, some (.nilFunc)) := by kernel_rfl
theorem ty66 : tinf Try.prog 66 = some ((TypeDesc.func #[49] #[4] false), 1, 8, some (.nilFunc)) := by kernel_rfl
theorem ty67 : tinf Try.prog 67 = some ((TypeDesc.slice 3), 1, 24, some (.slice none 0 0)) := by kernel_rfl
theorem ty68 : tinf Try.prog 68 = some ((TypeDesc.func #[] #[67] false), 1, 8, some (.nilFunc)) := by kernel_rfl
theorem ty69 : tinf Try.prog 69 = some ((TypeDesc.func #[43, 70] #[] false), 1, 8, some (.nilFunc)) := by kernel_rfl
theorem ty70 : tinf Try.prog 70 = some ((TypeDesc.func #[3, 35] #[4] false), 1, 8, some (.nilFunc)) := by kernel_rfl
theorem ty72 : tinf Try.prog 72 = some ((TypeDesc.func #[3] #[4] false), 1, 8, some (.nilFunc)) := by kernel_rfl
theorem ty73 : tinf Try.prog 73 = some ((TypeDesc.func #[33] #[29] false), 1, 8, some (.nilFunc)) := by kernel_rfl
theorem ty74 : tinf Try.prog 74 = some ((TypeDesc.func #[49, 3] #[49] false), 1, 8, some (.nilFunc)) := by kernel_rfl
theorem ty75 : tinf Try.prog 75 = some ((TypeDesc.slice 78), 1, 24, some (.slice none 0 0)) := by kernel_rfl
theorem ty76 : tinf Try.prog 76 = some ((TypeDesc.func #[77] #[75] false), 1, 8, some (.nilFunc)) := by kernel_rfl
theorem ty77 : tinf Try.prog 77 = some ((TypeDesc.pointer 35), 1, 8, some (.pointer none)) := by kernel_rfl
theorem ty78 : tinf Try.prog 78 = some ((TypeDesc.pointer 3), 1, 8, some (.pointer none)) := by kernel_rfl
theorem ty79 : tinf Try.prog 79 = some ((TypeDesc.func #[43] #[43] false), 1, 8, some (.nilFunc)) := by kernel_rfl
theorem ty80 : tinf Try.prog 80 = some ((TypeDesc.pointer 101), 1, 8, some (.pointer none)) := by kernel_rfl
theorem ty81 : tinf Try.prog 81 = some ((TypeDesc.func #[49] #[80] false), 1, 8, some (.nilFunc)) := by kernel_rfl
theorem ty82 : tinf Try.prog 82 = some ((TypeDesc.func #[] #[3] false), 1, 8, some (.nilFunc)) := by kernel_rfl
theorem ty83 : tinf Try.prog 83 = some ((TypeDesc.func #[] #[29] false), 1, 8, some (.nilFunc)) := by kernel_rfl
theorem ty84 : tinf Try.prog 84 = some ((TypeDesc.func #[80] #[35] false), 1, 8, some (.nilFunc)) := by kernel_rfl
theorem ty85 : tinf Try.prog 85 = some ((TypeDesc.pointer 87), 1, 8, some (.pointer none)) := by kernel_rfl
theorem ty86 : tinf Try.prog 86 = some ((TypeDesc.struct #[{ name := "B", type := 49, offset := 0, embedded := false, tag := "", pkgPath := "", byteOffset := 0 }, { name := "At", type := 3, offset := 1, embedded := false, tag := "", pkgPath := "", byteOffset := 24 }, { name := "E", type := 29, offset := 2, embedded := false, tag := "", pkgPath := "", byteOffset := 32 }]), 3, 40, some (.agg #[.slice none 0 0, .int .i64 0, .int .i64 0])) := by kernel_rfl
theorem pl86 : plc Try.prog [{ name := "B", type := 49, offset := 0, embedded := false, tag := "", pkgPath := "", byteOffset := 0 }, { name := "At", type := 3, offset := 1, embedded := false, tag := "", pkgPath := "", byteOffset := 24 }, { name := "E", type := 29, offset := 2, embedded := false, tag := "", pkgPath := "", byteOffset := 32 }] = some [(0, 1), (1, 1), (2, 1)] := by kernel_rfl
theorem ty87 : tinf Try.prog 87 = some ((TypeDesc.struct #[{ name := "B", type := 49, offset := 0, embedded := false, tag := "", pkgPath := "", byteOffset := 0 }, { name := "At", type := 3, offset := 1, embedded := false, tag := "", pkgPath := "", byteOffset := 24 }, { name := "E", type := 29, offset := 2, embedded := false, tag := "", pkgPath := "", byteOffset := 32 }]), 3, 40, some (.agg #[.slice none 0 0, .int .i64 0, .int .i64 0])) := by kernel_rfl
theorem pl87 : plc Try.prog [{ name := "B", type := 49, offset := 0, embedded := false, tag := "", pkgPath := "", byteOffset := 0 }, { name := "At", type := 3, offset := 1, embedded := false, tag := "", pkgPath := "", byteOffset := 24 }, { name := "E", type := 29, offset := 2, embedded := false, tag := "", pkgPath := "", byteOffset := 32 }] = some [(0, 1), (1, 1), (2, 1)] := by kernel_rfl
theorem ty88 : tinf Try.prog 88 = some ((TypeDesc.func #[90] #[67] false), 1, 8, some (.nilFunc)) := by kernel_rfl
theorem ty89 : tinf Try.prog 89 = some ((TypeDesc.func #[72] #[] false), 1, 8, some (.nilFunc)) := by kernel_rfl
theorem ty90 : tinf Try.prog 90 = some ((TypeDesc.func #[72] #[] false), 1, 8, some (.nilFunc)) := by kernel_rfl
theorem ty91 : tinf Try.prog 91 = some ((TypeDesc.func #[43] #[90] false), 1, 8, some (.nilFunc)) := by kernel_rfl
theorem ty92 : tinf Try.prog 92 = some ((TypeDesc.array 9 5), 9, 9, some (.agg #[.int .u8 0, .int .u8 0, .int .u8 0, .int .u8 0, .int .u8 0, .int .u8 0, .int .u8 0, .int .u8 0, .int .u8 0])) := by kernel_rfl
theorem ty93 : tinf Try.prog 93 = some ((TypeDesc.func #[106] #[49] true), 1, 8, some (.nilFunc)) := by kernel_rfl
theorem ty94 : tinf Try.prog 94 = some ((TypeDesc.pointer 31), 1, 8, some (.pointer none)) := by kernel_rfl
theorem ty95 : tinf Try.prog 95 = some ((TypeDesc.func #[20] #[20] false), 1, 8, some (.nilFunc)) := by kernel_rfl
theorem ty96 : tinf Try.prog 96 = some ((TypeDesc.func #[33] #[67] false), 1, 8, some (.nilFunc)) := by kernel_rfl
theorem ty97 : tinf Try.prog 97 = some ((TypeDesc.pointer 99), 1, 8, some (.pointer none)) := by kernel_rfl
theorem ty98 : tinf Try.prog 98 = some ((TypeDesc.struct #[{ name := "b", type := 49, offset := 0, embedded := false, tag := "", pkgPath := "spandrel/wire", byteOffset := 0 }, { name := "at", type := 3, offset := 1, embedded := false, tag := "", pkgPath := "spandrel/wire", byteOffset := 24 }]), 2, 32, some (.agg #[.slice none 0 0, .int .i64 0])) := by kernel_rfl
theorem pl98 : plc Try.prog [{ name := "b", type := 49, offset := 0, embedded := false, tag := "", pkgPath := "spandrel/wire", byteOffset := 0 }, { name := "at", type := 3, offset := 1, embedded := false, tag := "", pkgPath := "spandrel/wire", byteOffset := 24 }] = some [(0, 1), (1, 1)] := by kernel_rfl
theorem ty99 : tinf Try.prog 99 = some ((TypeDesc.struct #[{ name := "b", type := 49, offset := 0, embedded := false, tag := "", pkgPath := "spandrel/wire", byteOffset := 0 }, { name := "at", type := 3, offset := 1, embedded := false, tag := "", pkgPath := "spandrel/wire", byteOffset := 24 }]), 2, 32, some (.agg #[.slice none 0 0, .int .i64 0])) := by kernel_rfl
theorem pl99 : plc Try.prog [{ name := "b", type := 49, offset := 0, embedded := false, tag := "", pkgPath := "spandrel/wire", byteOffset := 0 }, { name := "at", type := 3, offset := 1, embedded := false, tag := "", pkgPath := "spandrel/wire", byteOffset := 24 }] = some [(0, 1), (1, 1)] := by kernel_rfl
theorem ty100 : tinf Try.prog 100 = some ((TypeDesc.struct #[{ name := "strip", type := 97, offset := 0, embedded := true, tag := "", pkgPath := "spandrel/wire", byteOffset := 0 }, { name := "err", type := 29, offset := 1, embedded := false, tag := "", pkgPath := "spandrel/wire", byteOffset := 8 }]), 2, 16, some (.agg #[.pointer none, .int .i64 0])) := by kernel_rfl
theorem pl100 : plc Try.prog [{ name := "strip", type := 97, offset := 0, embedded := true, tag := "", pkgPath := "spandrel/wire", byteOffset := 0 }, { name := "err", type := 29, offset := 1, embedded := false, tag := "", pkgPath := "spandrel/wire", byteOffset := 8 }] = some [(0, 1), (1, 1)] := by kernel_rfl
theorem ty101 : tinf Try.prog 101 = some ((TypeDesc.struct #[{ name := "strip", type := 97, offset := 0, embedded := true, tag := "", pkgPath := "spandrel/wire", byteOffset := 0 }, { name := "err", type := 29, offset := 1, embedded := false, tag := "", pkgPath := "spandrel/wire", byteOffset := 8 }]), 2, 16, some (.agg #[.pointer none, .int .i64 0])) := by kernel_rfl
theorem pl101 : plc Try.prog [{ name := "strip", type := 97, offset := 0, embedded := true, tag := "", pkgPath := "spandrel/wire", byteOffset := 0 }, { name := "err", type := 29, offset := 1, embedded := false, tag := "", pkgPath := "spandrel/wire", byteOffset := 8 }] = some [(0, 1), (1, 1)] := by kernel_rfl
theorem ty102 : tinf Try.prog 102 = some ((TypeDesc.func #[29] #[3] false), 1, 8, some (.nilFunc)) := by kernel_rfl
theorem ty104 : tinf Try.prog 104 = some ((TypeDesc.func #[49] #[3, 3, 29] false), 1, 8, some (.nilFunc)) := by kernel_rfl
theorem ty105 : tinf Try.prog 105 = some ((TypeDesc.func #[67] #[] false), 1, 8, some (.nilFunc)) := by kernel_rfl
theorem ty106 : tinf Try.prog 106 = some ((TypeDesc.slice 49), 1, 24, some (.slice none 0 0)) := by kernel_rfl
theorem ty107 : tinf Try.prog 107 = some ((TypeDesc.func #[3] #[49] false), 1, 8, some (.nilFunc)) := by kernel_rfl
theorem ty108 : tinf Try.prog 108 = some ((TypeDesc.func #[67, 90] #[67] false), 1, 8, some (.nilFunc)) := by kernel_rfl
theorem ty109 : tinf Try.prog 109 = some ((TypeDesc.func #[67, 3, 3, 3] #[] false), 1, 8, some (.nilFunc)) := by kernel_rfl
theorem ty110 : tinf Try.prog 110 = some ((TypeDesc.func #[56] #[3] false), 1, 8, some (.nilFunc)) := by kernel_rfl
theorem ty111 : tinf Try.prog 111 = some ((TypeDesc.func #[67, 3, 3] #[] false), 1, 8, some (.nilFunc)) := by kernel_rfl
theorem ty112 : tinf Try.prog 112 = some ((TypeDesc.int IntKind.i64), 1, 8, some (.int .i64 0)) := by kernel_rfl
theorem ty114 : tinf Try.prog 114 = some ((TypeDesc.func #[67, 3, 3] #[3, 112] false), 1, 8, some (.nilFunc)) := by kernel_rfl
theorem ty115 : tinf Try.prog 115 = some ((TypeDesc.func #[67, 3, 3] #[4] false), 1, 8, some (.nilFunc)) := by kernel_rfl
theorem ty116 : tinf Try.prog 116 = some ((TypeDesc.func #[3, 3] #[4] false), 1, 8, some (.nilFunc)) := by kernel_rfl
theorem ty117 : tinf Try.prog 117 = some ((TypeDesc.func #[67, 3, 3, 3] #[3] false), 1, 8, some (.nilFunc)) := by kernel_rfl
theorem ty119 : tinf Try.prog 119 = some ((TypeDesc.func #[67, 3, 3, 3] #[3, 4] false), 1, 8, some (.nilFunc)) := by kernel_rfl
theorem ty120 : tinf Try.prog 120 = some ((TypeDesc.func #[121] #[3] false), 1, 8, some (.nilFunc)) := by kernel_rfl
theorem ty121 : tinf Try.prog 121 = some ((TypeDesc.int IntKind.u32), 1, 4, some (.int .u32 0)) := by kernel_rfl
theorem ty122 : tinf Try.prog 122 = some ((TypeDesc.func #[123] #[3] false), 1, 8, some (.nilFunc)) := by kernel_rfl
theorem ty123 : tinf Try.prog 123 = some ((TypeDesc.int IntKind.u64), 1, 8, some (.int .u64 0)) := by kernel_rfl
theorem ty124 : tinf Try.prog 124 = some ((TypeDesc.int IntKind.u64), 1, 8, some (.int .u64 0)) := by kernel_rfl
theorem ty125 : tinf Try.prog 125 = some ((TypeDesc.func #[3] #[56] false), 1, 8, some (.nilFunc)) := by kernel_rfl
theorem ty126 : tinf Try.prog 126 = some ((TypeDesc.func #[] #[123] false), 1, 8, some (.nilFunc)) := by kernel_rfl
theorem ty127 : tinf Try.prog 127 = some ((TypeDesc.func #[67, 3, 78] #[3] false), 1, 8, some (.nilFunc)) := by kernel_rfl
theorem ty128 : tinf Try.prog 128 = some ((TypeDesc.func #[67, 3, 3, 3, 78] #[3] false), 1, 8, some (.nilFunc)) := by kernel_rfl
theorem ty129 : tinf Try.prog 129 = some ((TypeDesc.pointer 124), 1, 8, some (.pointer none)) := by kernel_rfl
theorem ty131 : tinf Try.prog 131 = some ((TypeDesc.func #[67, 3, 3, 78] #[3, 3] false), 1, 8, some (.nilFunc)) := by kernel_rfl
theorem ty132 : tinf Try.prog 132 = some ((TypeDesc.func #[] #[9] false), 1, 8, some (.nilFunc)) := by kernel_rfl
theorem ty133 : tinf Try.prog 133 = some ((TypeDesc.struct #[{ name := "_interface", type := 17, offset := 0, embedded := false, tag := "", pkgPath := "runtime", byteOffset := 0 }, { name := "concrete", type := 17, offset := 1, embedded := false, tag := "", pkgPath := "runtime", byteOffset := 8 }, { name := "asserted", type := 17, offset := 2, embedded := false, tag := "", pkgPath := "runtime", byteOffset := 16 }, { name := "missingMethod", type := 9, offset := 3, embedded := false, tag := "", pkgPath := "runtime", byteOffset := 24 }]), 4, 40, some (.agg #[.pointer none, .pointer none, .pointer none, .string ⟨#[]⟩])) := by kernel_rfl
theorem pl133 : plc Try.prog [{ name := "_interface", type := 17, offset := 0, embedded := false, tag := "", pkgPath := "runtime", byteOffset := 0 }, { name := "concrete", type := 17, offset := 1, embedded := false, tag := "", pkgPath := "runtime", byteOffset := 8 }, { name := "asserted", type := 17, offset := 2, embedded := false, tag := "", pkgPath := "runtime", byteOffset := 16 }, { name := "missingMethod", type := 9, offset := 3, embedded := false, tag := "", pkgPath := "runtime", byteOffset := 24 }] = some [(0, 1), (1, 1), (2, 1), (3, 1)] := by kernel_rfl
theorem ty134 : tinf Try.prog 134 = some ((TypeDesc.struct #[{ name := "_interface", type := 17, offset := 0, embedded := false, tag := "", pkgPath := "runtime", byteOffset := 0 }, { name := "concrete", type := 17, offset := 1, embedded := false, tag := "", pkgPath := "runtime", byteOffset := 8 }, { name := "asserted", type := 17, offset := 2, embedded := false, tag := "", pkgPath := "runtime", byteOffset := 16 }, { name := "missingMethod", type := 9, offset := 3, embedded := false, tag := "", pkgPath := "runtime", byteOffset := 24 }]), 4, 40, some (.agg #[.pointer none, .pointer none, .pointer none, .string ⟨#[]⟩])) := by kernel_rfl
theorem pl134 : plc Try.prog [{ name := "_interface", type := 17, offset := 0, embedded := false, tag := "", pkgPath := "runtime", byteOffset := 0 }, { name := "concrete", type := 17, offset := 1, embedded := false, tag := "", pkgPath := "runtime", byteOffset := 8 }, { name := "asserted", type := 17, offset := 2, embedded := false, tag := "", pkgPath := "runtime", byteOffset := 16 }, { name := "missingMethod", type := 9, offset := 3, embedded := false, tag := "", pkgPath := "runtime", byteOffset := 24 }] = some [(0, 1), (1, 1), (2, 1), (3, 1)] := by kernel_rfl
theorem ty135 : tinf Try.prog 135 = some ((TypeDesc.array 0 16), 0, 0, some (.agg #[])) := by kernel_rfl
theorem ty136 : tinf Try.prog 136 = some ((TypeDesc.struct #[{ name := "_", type := 135, offset := 0, embedded := false, tag := "", pkgPath := "runtime", byteOffset := 0 }]), 0, 0, some (.agg #[])) := by kernel_rfl
theorem pl136 : plc Try.prog [{ name := "_", type := 135, offset := 0, embedded := false, tag := "", pkgPath := "runtime", byteOffset := 0 }] = some [(0, 0)] := by kernel_rfl
theorem ty137 : tinf Try.prog 137 = some ((TypeDesc.struct #[{ name := "_", type := 135, offset := 0, embedded := false, tag := "", pkgPath := "runtime", byteOffset := 0 }]), 0, 0, some (.agg #[])) := by kernel_rfl
theorem pl137 : plc Try.prog [{ name := "_", type := 135, offset := 0, embedded := false, tag := "", pkgPath := "runtime", byteOffset := 0 }] = some [(0, 0)] := by kernel_rfl
theorem ty138 : tinf Try.prog 138 = some ((TypeDesc.int IntKind.u8), 1, 1, some (.int .u8 0)) := by kernel_rfl
theorem ty139 : tinf Try.prog 139 = some ((TypeDesc.int IntKind.u8), 1, 1, some (.int .u8 0)) := by kernel_rfl
theorem ty140 : tinf Try.prog 140 = some ((TypeDesc.func #[146, 146] #[4] false), 1, 8, some (.nilFunc)) := by kernel_rfl
theorem ty141 : tinf Try.prog 141 = some ((TypeDesc.pointer 5), 1, 8, some (.pointer none)) := by kernel_rfl
theorem ty142 : tinf Try.prog 142 = some ((TypeDesc.int IntKind.i32), 1, 4, some (.int .i32 0)) := by kernel_rfl
theorem ty143 : tinf Try.prog 143 = some ((TypeDesc.int IntKind.i32), 1, 4, some (.int .i32 0)) := by kernel_rfl
theorem ty144 : tinf Try.prog 144 = some ((TypeDesc.struct #[{ name := "Size_", type := 12, offset := 0, embedded := false, tag := "", pkgPath := "", byteOffset := 0 }, { name := "PtrBytes", type := 12, offset := 1, embedded := false, tag := "", pkgPath := "", byteOffset := 8 }, { name := "Hash", type := 121, offset := 2, embedded := false, tag := "", pkgPath := "", byteOffset := 16 }, { name := "TFlag", type := 138, offset := 3, embedded := false, tag := "", pkgPath := "", byteOffset := 20 }, { name := "Align_", type := 5, offset := 4, embedded := false, tag := "", pkgPath := "", byteOffset := 21 }, { name := "FieldAlign_", type := 5, offset := 5, embedded := false, tag := "", pkgPath := "", byteOffset := 22 }, { name := "Kind_", type := 139, offset := 6, embedded := false, tag := "", pkgPath := "", byteOffset := 23 }, { name := "Equal", type := 140, offset := 7, embedded := false, tag := "", pkgPath := "", byteOffset := 24 }, { name := "GCData", type := 141, offset := 8, embedded := false, tag := "", pkgPath := "", byteOffset := 32 }, { name := "Str", type := 142, offset := 9, embedded := false, tag := "", pkgPath := "", byteOffset := 40 }, { name := "PtrToThis", type := 143, offset := 10, embedded := false, tag := "", pkgPath := "", byteOffset := 44 }]), 11, 48, some (.agg #[.int .u64 0, .int .u64 0, .int .u32 0, .int .u8 0, .int .u8 0, .int .u8 0, .int .u8 0, .nilFunc, .pointer none, .int .i32 0, .int .i32 0])) := by kernel_rfl
theorem pl144 : plc Try.prog [{ name := "Size_", type := 12, offset := 0, embedded := false, tag := "", pkgPath := "", byteOffset := 0 }, { name := "PtrBytes", type := 12, offset := 1, embedded := false, tag := "", pkgPath := "", byteOffset := 8 }, { name := "Hash", type := 121, offset := 2, embedded := false, tag := "", pkgPath := "", byteOffset := 16 }, { name := "TFlag", type := 138, offset := 3, embedded := false, tag := "", pkgPath := "", byteOffset := 20 }, { name := "Align_", type := 5, offset := 4, embedded := false, tag := "", pkgPath := "", byteOffset := 21 }, { name := "FieldAlign_", type := 5, offset := 5, embedded := false, tag := "", pkgPath := "", byteOffset := 22 }, { name := "Kind_", type := 139, offset := 6, embedded := false, tag := "", pkgPath := "", byteOffset := 23 }, { name := "Equal", type := 140, offset := 7, embedded := false, tag := "", pkgPath := "", byteOffset := 24 }, { name := "GCData", type := 141, offset := 8, embedded := false, tag := "", pkgPath := "", byteOffset := 32 }, { name := "Str", type := 142, offset := 9, embedded := false, tag := "", pkgPath := "", byteOffset := 40 }, { name := "PtrToThis", type := 143, offset := 10, embedded := false, tag := "", pkgPath := "", byteOffset := 44 }] = some [(0, 1), (1, 1), (2, 1), (3, 1), (4, 1), (5, 1), (6, 1), (7, 1), (8, 1), (9, 1), (10, 1)] := by kernel_rfl
theorem ty145 : tinf Try.prog 145 = some ((TypeDesc.struct #[{ name := "Size_", type := 12, offset := 0, embedded := false, tag := "", pkgPath := "", byteOffset := 0 }, { name := "PtrBytes", type := 12, offset := 1, embedded := false, tag := "", pkgPath := "", byteOffset := 8 }, { name := "Hash", type := 121, offset := 2, embedded := false, tag := "", pkgPath := "", byteOffset := 16 }, { name := "TFlag", type := 138, offset := 3, embedded := false, tag := "", pkgPath := "", byteOffset := 20 }, { name := "Align_", type := 5, offset := 4, embedded := false, tag := "", pkgPath := "", byteOffset := 21 }, { name := "FieldAlign_", type := 5, offset := 5, embedded := false, tag := "", pkgPath := "", byteOffset := 22 }, { name := "Kind_", type := 139, offset := 6, embedded := false, tag := "", pkgPath := "", byteOffset := 23 }, { name := "Equal", type := 140, offset := 7, embedded := false, tag := "", pkgPath := "", byteOffset := 24 }, { name := "GCData", type := 141, offset := 8, embedded := false, tag := "", pkgPath := "", byteOffset := 32 }, { name := "Str", type := 142, offset := 9, embedded := false, tag := "", pkgPath := "", byteOffset := 40 }, { name := "PtrToThis", type := 143, offset := 10, embedded := false, tag := "", pkgPath := "", byteOffset := 44 }]), 11, 48, some (.agg #[.int .u64 0, .int .u64 0, .int .u32 0, .int .u8 0, .int .u8 0, .int .u8 0, .int .u8 0, .nilFunc, .pointer none, .int .i32 0, .int .i32 0])) := by kernel_rfl
theorem pl145 : plc Try.prog [{ name := "Size_", type := 12, offset := 0, embedded := false, tag := "", pkgPath := "", byteOffset := 0 }, { name := "PtrBytes", type := 12, offset := 1, embedded := false, tag := "", pkgPath := "", byteOffset := 8 }, { name := "Hash", type := 121, offset := 2, embedded := false, tag := "", pkgPath := "", byteOffset := 16 }, { name := "TFlag", type := 138, offset := 3, embedded := false, tag := "", pkgPath := "", byteOffset := 20 }, { name := "Align_", type := 5, offset := 4, embedded := false, tag := "", pkgPath := "", byteOffset := 21 }, { name := "FieldAlign_", type := 5, offset := 5, embedded := false, tag := "", pkgPath := "", byteOffset := 22 }, { name := "Kind_", type := 139, offset := 6, embedded := false, tag := "", pkgPath := "", byteOffset := 23 }, { name := "Equal", type := 140, offset := 7, embedded := false, tag := "", pkgPath := "", byteOffset := 24 }, { name := "GCData", type := 141, offset := 8, embedded := false, tag := "", pkgPath := "", byteOffset := 32 }, { name := "Str", type := 142, offset := 9, embedded := false, tag := "", pkgPath := "", byteOffset := 40 }, { name := "PtrToThis", type := 143, offset := 10, embedded := false, tag := "", pkgPath := "", byteOffset := 44 }] = some [(0, 1), (1, 1), (2, 1), (3, 1), (4, 1), (5, 1), (6, 1), (7, 1), (8, 1), (9, 1), (10, 1)] := by kernel_rfl
theorem ty146 : tinf Try.prog 146 = some (TypeDesc.unsafePointer, 1, 8, some (.pointer none)) := by kernel_rfl
theorem pf3 : plainFn Try.prog 3 = true := by kernel_rfl
theorem pf4 : plainFn Try.prog 4 = true := by kernel_rfl
theorem pf5 : plainFn Try.prog 5 = true := by kernel_rfl
theorem pf6 : plainFn Try.prog 6 = true := by kernel_rfl
theorem pf7 : plainFn Try.prog 7 = true := by kernel_rfl
theorem pf8 : plainFn Try.prog 8 = true := by kernel_rfl
theorem pf9 : plainFn Try.prog 9 = true := by kernel_rfl
theorem pf10 : plainFn Try.prog 10 = true := by kernel_rfl
theorem pf11 : plainFn Try.prog 11 = true := by kernel_rfl
theorem pf12 : plainFn Try.prog 12 = true := by kernel_rfl
theorem pf13 : plainFn Try.prog 13 = true := by kernel_rfl
theorem pf14 : plainFn Try.prog 14 = true := by kernel_rfl
theorem pf15 : plainFn Try.prog 15 = true := by kernel_rfl
theorem pf16 : plainFn Try.prog 16 = true := by kernel_rfl
theorem pf17 : plainFn Try.prog 17 = true := by kernel_rfl
theorem pf18 : plainFn Try.prog 18 = true := by kernel_rfl
theorem pf19 : plainFn Try.prog 19 = true := by kernel_rfl
theorem pf20 : plainFn Try.prog 20 = true := by kernel_rfl
theorem pf21 : plainFn Try.prog 21 = true := by kernel_rfl
theorem pf22 : plainFn Try.prog 22 = true := by kernel_rfl
theorem pf23 : plainFn Try.prog 23 = true := by kernel_rfl
theorem pf24 : plainFn Try.prog 24 = true := by kernel_rfl
theorem pf25 : plainFn Try.prog 25 = true := by kernel_rfl
theorem pf26 : plainFn Try.prog 26 = true := by kernel_rfl
theorem pf27 : plainFn Try.prog 27 = true := by kernel_rfl
theorem pf28 : plainFn Try.prog 28 = true := by kernel_rfl
theorem pf29 : plainFn Try.prog 29 = true := by kernel_rfl
theorem pf30 : plainFn Try.prog 30 = true := by kernel_rfl
theorem pf31 : plainFn Try.prog 31 = true := by kernel_rfl
theorem pf32 : plainFn Try.prog 32 = true := by kernel_rfl
theorem pf33 : plainFn Try.prog 33 = true := by kernel_rfl
theorem pf34 : plainFn Try.prog 34 = true := by kernel_rfl
theorem pf35 : plainFn Try.prog 35 = true := by kernel_rfl
theorem pf36 : plainFn Try.prog 36 = true := by kernel_rfl
theorem pf37 : plainFn Try.prog 37 = true := by kernel_rfl
theorem pf38 : plainFn Try.prog 38 = true := by kernel_rfl
theorem pf39 : plainFn Try.prog 39 = true := by kernel_rfl
theorem pf40 : plainFn Try.prog 40 = true := by kernel_rfl
theorem pf41 : plainFn Try.prog 41 = true := by kernel_rfl
theorem pf42 : plainFn Try.prog 42 = true := by kernel_rfl
theorem pf43 : plainFn Try.prog 43 = true := by kernel_rfl
theorem pf44 : plainFn Try.prog 44 = true := by kernel_rfl
theorem pf45 : plainFn Try.prog 45 = true := by kernel_rfl
theorem pf46 : plainFn Try.prog 46 = true := by kernel_rfl
theorem pf47 : plainFn Try.prog 47 = true := by kernel_rfl
theorem pf48 : plainFn Try.prog 48 = true := by kernel_rfl
theorem pf50 : plainFn Try.prog 50 = true := by kernel_rfl
theorem pf51 : plainFn Try.prog 51 = true := by kernel_rfl
theorem pf52 : plainFn Try.prog 52 = true := by kernel_rfl
theorem pf53 : plainFn Try.prog 53 = true := by kernel_rfl
theorem pf54 : plainFn Try.prog 54 = true := by kernel_rfl
theorem pf55 : plainFn Try.prog 55 = true := by kernel_rfl
theorem pf56 : plainFn Try.prog 56 = true := by kernel_rfl
theorem pf57 : plainFn Try.prog 57 = true := by kernel_rfl
theorem pf58 : plainFn Try.prog 58 = true := by kernel_rfl
theorem pf59 : plainFn Try.prog 59 = true := by kernel_rfl
theorem pf60 : plainFn Try.prog 60 = true := by kernel_rfl
theorem pf61 : plainFn Try.prog 61 = true := by kernel_rfl
theorem pf62 : plainFn Try.prog 62 = true := by kernel_rfl
theorem pf63 : plainFn Try.prog 63 = true := by kernel_rfl
theorem pf64 : plainFn Try.prog 64 = true := by kernel_rfl
theorem pf65 : plainFn Try.prog 65 = true := by kernel_rfl
theorem pf66 : plainFn Try.prog 66 = true := by kernel_rfl
theorem pf67 : plainFn Try.prog 67 = true := by kernel_rfl
theorem pf68 : plainFn Try.prog 68 = true := by kernel_rfl
theorem pf69 : plainFn Try.prog 69 = true := by kernel_rfl
end Go.Proofs.Ytbppeijcfkdhjaa.Eng
