/- The table of the types of this translation, for the abstract machine: a type, its form, its size in cells and bytes, its zero cells. -/
import Derived.Test.YtpggklkofilmfaaAbDefs
import Derived.Test.YtpggklkofilmfaaProg
import Derived.KernelRfl
namespace Go.Proofs.Ytpggklkofilmfaa
open Go Go.Ab
set_option maxRecDepth 100000
def ti2 : TI := ⟨(Go.TypeDesc.int Go.IntKind.i64), 1, 8, [.v (.int .i64 0)]⟩
theorem ti2_ok : TyOk Try.prog 2 ti2 := ⟨Try.underlying2, by kernel_rfl, by kernel_rfl, by kernel_rfl, by kernel_rfl, by kernel_rfl, by kernel_rfl⟩
def ti3 : TI := ⟨(Go.TypeDesc.int Go.IntKind.i64), 1, 8, [.v (.int .i64 0)]⟩
theorem ti3_ok : TyOk Try.prog 3 ti3 := ⟨Try.underlying3, by kernel_rfl, by kernel_rfl, by kernel_rfl, by kernel_rfl, by kernel_rfl, by kernel_rfl⟩
def ti4 : TI := ⟨Go.TypeDesc.bool, 1, 1, [.v (.bool false)]⟩
theorem ti4_ok : TyOk Try.prog 4 ti4 := ⟨Try.underlying4, by kernel_rfl, by kernel_rfl, by kernel_rfl, by kernel_rfl, by kernel_rfl, by kernel_rfl⟩
def ti5 : TI := ⟨(Go.TypeDesc.int Go.IntKind.u8), 1, 1, [.v (.int .u8 0)]⟩
theorem ti5_ok : TyOk Try.prog 5 ti5 := ⟨Try.underlying5, by kernel_rfl, by kernel_rfl, by kernel_rfl, by kernel_rfl, by kernel_rfl, by kernel_rfl⟩
def ti6 : TI := ⟨(Go.TypeDesc.int Go.IntKind.u8), 1, 1, [.v (.int .u8 0)]⟩
theorem ti6_ok : TyOk Try.prog 6 ti6 := ⟨Try.underlying6, by kernel_rfl, by kernel_rfl, by kernel_rfl, by kernel_rfl, by kernel_rfl, by kernel_rfl⟩
def ti7 : TI := ⟨(Go.TypeDesc.struct #[{ name := "x", type := 2, offset := 0, embedded := false, tag := "", pkgPath := "runtime", byteOffset := 0 }, { name := "y", type := 3, offset := 1, embedded := false, tag := "", pkgPath := "runtime", byteOffset := 8 }, { name := "signed", type := 4, offset := 2, embedded := false, tag := "", pkgPath := "runtime", byteOffset := 16 }, { name := "code", type := 6, offset := 3, embedded := false, tag := "", pkgPath := "runtime", byteOffset := 17 }]), 4, 24, [.v (.int .i64 0), .v (.int .i64 0), .v (.bool false), .v (.int .u8 0)]⟩
theorem ti7_ok : TyOk Try.prog 7 ti7 := ⟨Try.underlying7, by kernel_rfl, by kernel_rfl, by kernel_rfl, by kernel_rfl, by kernel_rfl, by kernel_rfl⟩
def ti8 : TI := ⟨(Go.TypeDesc.struct #[{ name := "x", type := 2, offset := 0, embedded := false, tag := "", pkgPath := "runtime", byteOffset := 0 }, { name := "y", type := 3, offset := 1, embedded := false, tag := "", pkgPath := "runtime", byteOffset := 8 }, { name := "signed", type := 4, offset := 2, embedded := false, tag := "", pkgPath := "runtime", byteOffset := 16 }, { name := "code", type := 6, offset := 3, embedded := false, tag := "", pkgPath := "runtime", byteOffset := 17 }]), 4, 24, [.v (.int .i64 0), .v (.int .i64 0), .v (.bool false), .v (.int .u8 0)]⟩
theorem ti8_ok : TyOk Try.prog 8 ti8 := ⟨Try.underlying8, by kernel_rfl, by kernel_rfl, by kernel_rfl, by kernel_rfl, by kernel_rfl, by kernel_rfl⟩
def ti9 : TI := ⟨Go.TypeDesc.string, 1, 16, [.v (.string ⟨#[]⟩)]⟩
theorem ti9_ok : TyOk Try.prog 9 ti9 := ⟨Try.underlying9, by kernel_rfl, by kernel_rfl, by kernel_rfl, by kernel_rfl, by kernel_rfl, by kernel_rfl⟩
def ti10 : TI := ⟨Go.TypeDesc.string, 1, 16, [.v (.string ⟨#[]⟩)]⟩
theorem ti10_ok : TyOk Try.prog 10 ti10 := ⟨Try.underlying10, by kernel_rfl, by kernel_rfl, by kernel_rfl, by kernel_rfl, by kernel_rfl, by kernel_rfl⟩
def ti11 : TI := ⟨Go.TypeDesc.string, 1, 16, [.v (.string ⟨#[]⟩)]⟩
theorem ti11_ok : TyOk Try.prog 11 ti11 := ⟨Try.underlying11, by kernel_rfl, by kernel_rfl, by kernel_rfl, by kernel_rfl, by kernel_rfl, by kernel_rfl⟩
def ti12 : TI := ⟨(Go.TypeDesc.int Go.IntKind.u64), 1, 8, [.v (.int .u64 0)]⟩
theorem ti12_ok : TyOk Try.prog 12 ti12 := ⟨Try.underlying12, by kernel_rfl, by kernel_rfl, by kernel_rfl, by kernel_rfl, by kernel_rfl, by kernel_rfl⟩
def ti15 : TI := ⟨(Go.TypeDesc.pointer 85), 1, 8, [.v (.pointer none)]⟩
theorem ti15_ok : TyOk Try.prog 15 ti15 := ⟨Try.underlying15, by kernel_rfl, by kernel_rfl, by kernel_rfl, by kernel_rfl, by kernel_rfl, by kernel_rfl⟩
def ti16 : TI := ⟨(Go.TypeDesc.pointer 88), 1, 8, [.v (.pointer none)]⟩
theorem ti16_ok : TyOk Try.prog 16 ti16 := ⟨Try.underlying16, by kernel_rfl, by kernel_rfl, by kernel_rfl, by kernel_rfl, by kernel_rfl, by kernel_rfl⟩
def ti17 : TI := ⟨(Go.TypeDesc.pointer 97), 1, 8, [.v (.pointer none)]⟩
theorem ti17_ok : TyOk Try.prog 17 ti17 := ⟨Try.underlying17, by kernel_rfl, by kernel_rfl, by kernel_rfl, by kernel_rfl, by kernel_rfl, by kernel_rfl⟩
def ti18 : TI := ⟨(Go.TypeDesc.struct #[{ name := "typ", type := 17, offset := 0, embedded := false, tag := "", pkgPath := "internal/runtime/maps", byteOffset := 0 }]), 1, 8, [.v (.pointer none)]⟩
theorem ti18_ok : TyOk Try.prog 18 ti18 := ⟨Try.underlying18, by kernel_rfl, by kernel_rfl, by kernel_rfl, by kernel_rfl, by kernel_rfl, by kernel_rfl⟩
def ti19 : TI := ⟨(Go.TypeDesc.struct #[{ name := "typ", type := 17, offset := 0, embedded := false, tag := "", pkgPath := "internal/runtime/maps", byteOffset := 0 }]), 1, 8, [.v (.pointer none)]⟩
theorem ti19_ok : TyOk Try.prog 19 ti19 := ⟨Try.underlying19, by kernel_rfl, by kernel_rfl, by kernel_rfl, by kernel_rfl, by kernel_rfl, by kernel_rfl⟩
def ti21 : TI := ⟨(Go.TypeDesc.int Go.IntKind.i32), 1, 4, [.v (.int .i32 0)]⟩
theorem ti21_ok : TyOk Try.prog 21 ti21 := ⟨Try.underlying21, by kernel_rfl, by kernel_rfl, by kernel_rfl, by kernel_rfl, by kernel_rfl, by kernel_rfl⟩
def ti22 : TI := ⟨(Go.TypeDesc.slice 5), 1, 24, [.v (.slice none 0 0)]⟩
theorem ti22_ok : TyOk Try.prog 22 ti22 := ⟨Try.underlying22, by kernel_rfl, by kernel_rfl, by kernel_rfl, by kernel_rfl, by kernel_rfl, by kernel_rfl⟩
def ti24 : TI := ⟨(Go.TypeDesc.array 32 5), 32, 32, [.ints .u8 32 (List.replicate 32 0)]⟩
theorem ti24_ok : TyOk Try.prog 24 ti24 := ⟨Try.underlying24, by kernel_rfl, by kernel_rfl, by kernel_rfl, by kernel_rfl, by kernel_rfl, by kernel_rfl⟩
def ti25 : TI := ⟨(Go.TypeDesc.array 32 5), 32, 32, [.ints .u8 32 (List.replicate 32 0)]⟩
theorem ti25_ok : TyOk Try.prog 25 ti25 := ⟨Try.underlying25, by kernel_rfl, by kernel_rfl, by kernel_rfl, by kernel_rfl, by kernel_rfl, by kernel_rfl⟩
def ti29 : TI := ⟨(Go.TypeDesc.slice 9), 1, 24, [.v (.slice none 0 0)]⟩
theorem ti29_ok : TyOk Try.prog 29 ti29 := ⟨Try.underlying29, by kernel_rfl, by kernel_rfl, by kernel_rfl, by kernel_rfl, by kernel_rfl, by kernel_rfl⟩
def ti34 : TI := ⟨(Go.TypeDesc.int Go.IntKind.u64), 1, 8, [.v (.int .u64 0)]⟩
theorem ti34_ok : TyOk Try.prog 34 ti34 := ⟨Try.underlying34, by kernel_rfl, by kernel_rfl, by kernel_rfl, by kernel_rfl, by kernel_rfl, by kernel_rfl⟩
def ti35 : TI := ⟨(Go.TypeDesc.struct #[{ name := "Key", type := 25, offset := 0, embedded := false, tag := "", pkgPath := "", byteOffset := 0 }, { name := "Part", type := 3, offset := 32, embedded := false, tag := "", pkgPath := "", byteOffset := 32 }, { name := "Last", type := 4, offset := 33, embedded := false, tag := "", pkgPath := "", byteOffset := 40 }, { name := "Size", type := 3, offset := 34, embedded := false, tag := "", pkgPath := "", byteOffset := 48 }, { name := "Sum", type := 25, offset := 35, embedded := false, tag := "", pkgPath := "", byteOffset := 56 }, { name := "Turn", type := 34, offset := 67, embedded := false, tag := "", pkgPath := "", byteOffset := 88 }]), 68, 96, [.ints .u8 32 (List.replicate 32 0), .v (.int .i64 0), .v (.bool false), .v (.int .i64 0), .ints .u8 32 (List.replicate 32 0), .v (.int .u64 0)]⟩
theorem ti35_ok : TyOk Try.prog 35 ti35 := ⟨Try.underlying35, by kernel_rfl, by kernel_rfl, by kernel_rfl, by kernel_rfl, by kernel_rfl, by kernel_rfl⟩
def ti36 : TI := ⟨(Go.TypeDesc.struct #[{ name := "Key", type := 25, offset := 0, embedded := false, tag := "", pkgPath := "", byteOffset := 0 }, { name := "Part", type := 3, offset := 32, embedded := false, tag := "", pkgPath := "", byteOffset := 32 }, { name := "Last", type := 4, offset := 33, embedded := false, tag := "", pkgPath := "", byteOffset := 40 }, { name := "Size", type := 3, offset := 34, embedded := false, tag := "", pkgPath := "", byteOffset := 48 }, { name := "Sum", type := 25, offset := 35, embedded := false, tag := "", pkgPath := "", byteOffset := 56 }, { name := "Turn", type := 34, offset := 67, embedded := false, tag := "", pkgPath := "", byteOffset := 88 }]), 68, 96, [.ints .u8 32 (List.replicate 32 0), .v (.int .i64 0), .v (.bool false), .v (.int .i64 0), .ints .u8 32 (List.replicate 32 0), .v (.int .u64 0)]⟩
theorem ti36_ok : TyOk Try.prog 36 ti36 := ⟨Try.underlying36, by kernel_rfl, by kernel_rfl, by kernel_rfl, by kernel_rfl, by kernel_rfl, by kernel_rfl⟩
def ti37 : TI := ⟨(Go.TypeDesc.int Go.IntKind.u16), 1, 2, [.v (.int .u16 0)]⟩
theorem ti37_ok : TyOk Try.prog 37 ti37 := ⟨Try.underlying37, by kernel_rfl, by kernel_rfl, by kernel_rfl, by kernel_rfl, by kernel_rfl, by kernel_rfl⟩
def ti39 : TI := ⟨(Go.TypeDesc.int Go.IntKind.i64), 1, 8, [.v (.int .i64 0)]⟩
theorem ti39_ok : TyOk Try.prog 39 ti39 := ⟨Try.underlying39, by kernel_rfl, by kernel_rfl, by kernel_rfl, by kernel_rfl, by kernel_rfl, by kernel_rfl⟩
def ti47 : TI := ⟨(Go.TypeDesc.slice 22), 1, 24, [.v (.slice none 0 0)]⟩
theorem ti47_ok : TyOk Try.prog 47 ti47 := ⟨Try.underlying47, by kernel_rfl, by kernel_rfl, by kernel_rfl, by kernel_rfl, by kernel_rfl, by kernel_rfl⟩
def ti49 : TI := ⟨(Go.TypeDesc.int Go.IntKind.u32), 1, 4, [.v (.int .u32 0)]⟩
theorem ti49_ok : TyOk Try.prog 49 ti49 := ⟨Try.underlying49, by kernel_rfl, by kernel_rfl, by kernel_rfl, by kernel_rfl, by kernel_rfl, by kernel_rfl⟩
def ti50 : TI := ⟨(Go.TypeDesc.struct #[{ name := "Tag", type := 37, offset := 0, embedded := false, tag := "", pkgPath := "", byteOffset := 0 }, { name := "At", type := 49, offset := 1, embedded := false, tag := "", pkgPath := "", byteOffset := 4 }, { name := "Sectors", type := 37, offset := 2, embedded := false, tag := "", pkgPath := "", byteOffset := 8 }, { name := "Turn", type := 34, offset := 3, embedded := false, tag := "", pkgPath := "", byteOffset := 16 }]), 4, 24, [.v (.int .u16 0), .v (.int .u32 0), .v (.int .u16 0), .v (.int .u64 0)]⟩
theorem ti50_ok : TyOk Try.prog 50 ti50 := ⟨Try.underlying50, by kernel_rfl, by kernel_rfl, by kernel_rfl, by kernel_rfl, by kernel_rfl, by kernel_rfl⟩
def ti51 : TI := ⟨(Go.TypeDesc.struct #[{ name := "Tag", type := 37, offset := 0, embedded := false, tag := "", pkgPath := "", byteOffset := 0 }, { name := "At", type := 49, offset := 1, embedded := false, tag := "", pkgPath := "", byteOffset := 4 }, { name := "Sectors", type := 37, offset := 2, embedded := false, tag := "", pkgPath := "", byteOffset := 8 }, { name := "Turn", type := 34, offset := 3, embedded := false, tag := "", pkgPath := "", byteOffset := 16 }]), 4, 24, [.v (.int .u16 0), .v (.int .u32 0), .v (.int .u16 0), .v (.int .u64 0)]⟩
theorem ti51_ok : TyOk Try.prog 51 ti51 := ⟨Try.underlying51, by kernel_rfl, by kernel_rfl, by kernel_rfl, by kernel_rfl, by kernel_rfl, by kernel_rfl⟩
def ti52 : TI := ⟨(Go.TypeDesc.array 16 5), 16, 16, [.ints .u8 16 (List.replicate 16 0)]⟩
theorem ti52_ok : TyOk Try.prog 52 ti52 := ⟨Try.underlying52, by kernel_rfl, by kernel_rfl, by kernel_rfl, by kernel_rfl, by kernel_rfl, by kernel_rfl⟩
def ti61 : TI := ⟨(Go.TypeDesc.pointer 67), 1, 8, [.v (.pointer none)]⟩
theorem ti61_ok : TyOk Try.prog 61 ti61 := ⟨Try.underlying61, by kernel_rfl, by kernel_rfl, by kernel_rfl, by kernel_rfl, by kernel_rfl, by kernel_rfl⟩
def ti63 : TI := ⟨(Go.TypeDesc.array 64 49), 64, 256, [.ints .u32 64 (List.replicate 64 0)]⟩
theorem ti63_ok : TyOk Try.prog 63 ti63 := ⟨Try.underlying63, by kernel_rfl, by kernel_rfl, by kernel_rfl, by kernel_rfl, by kernel_rfl, by kernel_rfl⟩
def ti64 : TI := ⟨(Go.TypeDesc.array 8 49), 8, 32, [.ints .u32 8 (List.replicate 8 0)]⟩
theorem ti64_ok : TyOk Try.prog 64 ti64 := ⟨Try.underlying64, by kernel_rfl, by kernel_rfl, by kernel_rfl, by kernel_rfl, by kernel_rfl, by kernel_rfl⟩
def ti65 : TI := ⟨(Go.TypeDesc.array 8 49), 8, 32, [.ints .u32 8 (List.replicate 8 0)]⟩
theorem ti65_ok : TyOk Try.prog 65 ti65 := ⟨Try.underlying65, by kernel_rfl, by kernel_rfl, by kernel_rfl, by kernel_rfl, by kernel_rfl, by kernel_rfl⟩
def ti66 : TI := ⟨(Go.TypeDesc.struct #[{ name := "rounds", type := 63, offset := 0, embedded := false, tag := "", pkgPath := "ambry/sha", byteOffset := 0 }, { name := "begin", type := 65, offset := 64, embedded := false, tag := "", pkgPath := "ambry/sha", byteOffset := 256 }]), 72, 288, [.ints .u32 64 (List.replicate 64 0), .ints .u32 8 (List.replicate 8 0)]⟩
theorem ti66_ok : TyOk Try.prog 66 ti66 := ⟨Try.underlying66, by kernel_rfl, by kernel_rfl, by kernel_rfl, by kernel_rfl, by kernel_rfl, by kernel_rfl⟩
def ti67 : TI := ⟨(Go.TypeDesc.struct #[{ name := "rounds", type := 63, offset := 0, embedded := false, tag := "", pkgPath := "ambry/sha", byteOffset := 0 }, { name := "begin", type := 65, offset := 64, embedded := false, tag := "", pkgPath := "ambry/sha", byteOffset := 256 }]), 72, 288, [.ints .u32 64 (List.replicate 64 0), .ints .u32 8 (List.replicate 8 0)]⟩
theorem ti67_ok : TyOk Try.prog 67 ti67 := ⟨Try.underlying67, by kernel_rfl, by kernel_rfl, by kernel_rfl, by kernel_rfl, by kernel_rfl, by kernel_rfl⟩
def ti69 : TI := ⟨(Go.TypeDesc.array 128 5), 128, 128, [.ints .u8 128 (List.replicate 128 0)]⟩
theorem ti69_ok : TyOk Try.prog 69 ti69 := ⟨Try.underlying69, by kernel_rfl, by kernel_rfl, by kernel_rfl, by kernel_rfl, by kernel_rfl, by kernel_rfl⟩
def ti70 : TI := ⟨(Go.TypeDesc.int Go.IntKind.u64), 1, 8, [.v (.int .u64 0)]⟩
theorem ti70_ok : TyOk Try.prog 70 ti70 := ⟨Try.underlying70, by kernel_rfl, by kernel_rfl, by kernel_rfl, by kernel_rfl, by kernel_rfl, by kernel_rfl⟩
def ti75 : TI := ⟨(Go.TypeDesc.struct #[{ name := "sign", type := 22, offset := 0, embedded := false, tag := "", pkgPath := "ambry/frag", byteOffset := 0 }, { name := "key", type := 22, offset := 1, embedded := false, tag := "", pkgPath := "ambry/frag", byteOffset := 24 }, { name := "part", type := 22, offset := 2, embedded := false, tag := "", pkgPath := "ambry/frag", byteOffset := 48 }, { name := "last", type := 22, offset := 3, embedded := false, tag := "", pkgPath := "ambry/frag", byteOffset := 72 }, { name := "size", type := 22, offset := 4, embedded := false, tag := "", pkgPath := "ambry/frag", byteOffset := 96 }, { name := "sum", type := 22, offset := 5, embedded := false, tag := "", pkgPath := "ambry/frag", byteOffset := 120 }, { name := "turn", type := 22, offset := 6, embedded := false, tag := "", pkgPath := "ambry/frag", byteOffset := 144 }, { name := "crc", type := 22, offset := 7, embedded := false, tag := "", pkgPath := "ambry/frag", byteOffset := 168 }]), 8, 192, [.v (.slice none 0 0), .v (.slice none 0 0), .v (.slice none 0 0), .v (.slice none 0 0), .v (.slice none 0 0), .v (.slice none 0 0), .v (.slice none 0 0), .v (.slice none 0 0)]⟩
theorem ti75_ok : TyOk Try.prog 75 ti75 := ⟨Try.underlying75, by kernel_rfl, by kernel_rfl, by kernel_rfl, by kernel_rfl, by kernel_rfl, by kernel_rfl⟩
def ti76 : TI := ⟨(Go.TypeDesc.struct #[{ name := "sign", type := 22, offset := 0, embedded := false, tag := "", pkgPath := "ambry/frag", byteOffset := 0 }, { name := "key", type := 22, offset := 1, embedded := false, tag := "", pkgPath := "ambry/frag", byteOffset := 24 }, { name := "part", type := 22, offset := 2, embedded := false, tag := "", pkgPath := "ambry/frag", byteOffset := 48 }, { name := "last", type := 22, offset := 3, embedded := false, tag := "", pkgPath := "ambry/frag", byteOffset := 72 }, { name := "size", type := 22, offset := 4, embedded := false, tag := "", pkgPath := "ambry/frag", byteOffset := 96 }, { name := "sum", type := 22, offset := 5, embedded := false, tag := "", pkgPath := "ambry/frag", byteOffset := 120 }, { name := "turn", type := 22, offset := 6, embedded := false, tag := "", pkgPath := "ambry/frag", byteOffset := 144 }, { name := "crc", type := 22, offset := 7, embedded := false, tag := "", pkgPath := "ambry/frag", byteOffset := 168 }]), 8, 192, [.v (.slice none 0 0), .v (.slice none 0 0), .v (.slice none 0 0), .v (.slice none 0 0), .v (.slice none 0 0), .v (.slice none 0 0), .v (.slice none 0 0), .v (.slice none 0 0)]⟩
theorem ti76_ok : TyOk Try.prog 76 ti76 := ⟨Try.underlying76, by kernel_rfl, by kernel_rfl, by kernel_rfl, by kernel_rfl, by kernel_rfl, by kernel_rfl⟩
def ti81 : TI := ⟨(Go.TypeDesc.pointer 65), 1, 8, [.v (.pointer none)]⟩
theorem ti81_ok : TyOk Try.prog 81 ti81 := ⟨Try.underlying81, by kernel_rfl, by kernel_rfl, by kernel_rfl, by kernel_rfl, by kernel_rfl, by kernel_rfl⟩
def ti84 : TI := ⟨(Go.TypeDesc.struct #[{ name := "_interface", type := 17, offset := 0, embedded := false, tag := "", pkgPath := "runtime", byteOffset := 0 }, { name := "concrete", type := 17, offset := 1, embedded := false, tag := "", pkgPath := "runtime", byteOffset := 8 }, { name := "asserted", type := 17, offset := 2, embedded := false, tag := "", pkgPath := "runtime", byteOffset := 16 }, { name := "missingMethod", type := 9, offset := 3, embedded := false, tag := "", pkgPath := "runtime", byteOffset := 24 }]), 4, 40, [.v (.pointer none), .v (.pointer none), .v (.pointer none), .v (.string ⟨#[]⟩)]⟩
theorem ti84_ok : TyOk Try.prog 84 ti84 := ⟨Try.underlying84, by kernel_rfl, by kernel_rfl, by kernel_rfl, by kernel_rfl, by kernel_rfl, by kernel_rfl⟩
def ti85 : TI := ⟨(Go.TypeDesc.struct #[{ name := "_interface", type := 17, offset := 0, embedded := false, tag := "", pkgPath := "runtime", byteOffset := 0 }, { name := "concrete", type := 17, offset := 1, embedded := false, tag := "", pkgPath := "runtime", byteOffset := 8 }, { name := "asserted", type := 17, offset := 2, embedded := false, tag := "", pkgPath := "runtime", byteOffset := 16 }, { name := "missingMethod", type := 9, offset := 3, embedded := false, tag := "", pkgPath := "runtime", byteOffset := 24 }]), 4, 40, [.v (.pointer none), .v (.pointer none), .v (.pointer none), .v (.string ⟨#[]⟩)]⟩
theorem ti85_ok : TyOk Try.prog 85 ti85 := ⟨Try.underlying85, by kernel_rfl, by kernel_rfl, by kernel_rfl, by kernel_rfl, by kernel_rfl, by kernel_rfl⟩
def ti90 : TI := ⟨(Go.TypeDesc.int Go.IntKind.u8), 1, 1, [.v (.int .u8 0)]⟩
theorem ti90_ok : TyOk Try.prog 90 ti90 := ⟨Try.underlying90, by kernel_rfl, by kernel_rfl, by kernel_rfl, by kernel_rfl, by kernel_rfl, by kernel_rfl⟩
def ti91 : TI := ⟨(Go.TypeDesc.int Go.IntKind.u8), 1, 1, [.v (.int .u8 0)]⟩
theorem ti91_ok : TyOk Try.prog 91 ti91 := ⟨Try.underlying91, by kernel_rfl, by kernel_rfl, by kernel_rfl, by kernel_rfl, by kernel_rfl, by kernel_rfl⟩
def ti93 : TI := ⟨(Go.TypeDesc.pointer 5), 1, 8, [.v (.pointer none)]⟩
theorem ti93_ok : TyOk Try.prog 93 ti93 := ⟨Try.underlying93, by kernel_rfl, by kernel_rfl, by kernel_rfl, by kernel_rfl, by kernel_rfl, by kernel_rfl⟩
def ti94 : TI := ⟨(Go.TypeDesc.int Go.IntKind.i32), 1, 4, [.v (.int .i32 0)]⟩
theorem ti94_ok : TyOk Try.prog 94 ti94 := ⟨Try.underlying94, by kernel_rfl, by kernel_rfl, by kernel_rfl, by kernel_rfl, by kernel_rfl, by kernel_rfl⟩
def ti95 : TI := ⟨(Go.TypeDesc.int Go.IntKind.i32), 1, 4, [.v (.int .i32 0)]⟩
theorem ti95_ok : TyOk Try.prog 95 ti95 := ⟨Try.underlying95, by kernel_rfl, by kernel_rfl, by kernel_rfl, by kernel_rfl, by kernel_rfl, by kernel_rfl⟩
def tab : Tab
  | 2 => some ti2
  | 3 => some ti3
  | 4 => some ti4
  | 5 => some ti5
  | 6 => some ti6
  | 7 => some ti7
  | 8 => some ti8
  | 9 => some ti9
  | 10 => some ti10
  | 11 => some ti11
  | 12 => some ti12
  | 15 => some ti15
  | 16 => some ti16
  | 17 => some ti17
  | 18 => some ti18
  | 19 => some ti19
  | 21 => some ti21
  | 22 => some ti22
  | 24 => some ti24
  | 25 => some ti25
  | 29 => some ti29
  | 34 => some ti34
  | 35 => some ti35
  | 36 => some ti36
  | 37 => some ti37
  | 39 => some ti39
  | 47 => some ti47
  | 49 => some ti49
  | 50 => some ti50
  | 51 => some ti51
  | 52 => some ti52
  | 61 => some ti61
  | 63 => some ti63
  | 64 => some ti64
  | 65 => some ti65
  | 66 => some ti66
  | 67 => some ti67
  | 69 => some ti69
  | 70 => some ti70
  | 75 => some ti75
  | 76 => some ti76
  | 81 => some ti81
  | 84 => some ti84
  | 85 => some ti85
  | 90 => some ti90
  | 91 => some ti91
  | 93 => some ti93
  | 94 => some ti94
  | 95 => some ti95
  | _ => none
theorem tab_ok : ∀ t i, tab t = some i → TyOk Try.prog t i := by
  intro t i h
  unfold tab at h
  split at h
  · cases h; exact ti2_ok
  · cases h; exact ti3_ok
  · cases h; exact ti4_ok
  · cases h; exact ti5_ok
  · cases h; exact ti6_ok
  · cases h; exact ti7_ok
  · cases h; exact ti8_ok
  · cases h; exact ti9_ok
  · cases h; exact ti10_ok
  · cases h; exact ti11_ok
  · cases h; exact ti12_ok
  · cases h; exact ti15_ok
  · cases h; exact ti16_ok
  · cases h; exact ti17_ok
  · cases h; exact ti18_ok
  · cases h; exact ti19_ok
  · cases h; exact ti21_ok
  · cases h; exact ti22_ok
  · cases h; exact ti24_ok
  · cases h; exact ti25_ok
  · cases h; exact ti29_ok
  · cases h; exact ti34_ok
  · cases h; exact ti35_ok
  · cases h; exact ti36_ok
  · cases h; exact ti37_ok
  · cases h; exact ti39_ok
  · cases h; exact ti47_ok
  · cases h; exact ti49_ok
  · cases h; exact ti50_ok
  · cases h; exact ti51_ok
  · cases h; exact ti52_ok
  · cases h; exact ti61_ok
  · cases h; exact ti63_ok
  · cases h; exact ti64_ok
  · cases h; exact ti65_ok
  · cases h; exact ti66_ok
  · cases h; exact ti67_ok
  · cases h; exact ti69_ok
  · cases h; exact ti70_ok
  · cases h; exact ti75_ok
  · cases h; exact ti76_ok
  · cases h; exact ti81_ok
  · cases h; exact ti84_ok
  · cases h; exact ti85_ok
  · cases h; exact ti90_ok
  · cases h; exact ti91_ok
  · cases h; exact ti93_ok
  · cases h; exact ti94_ok
  · cases h; exact ti95_ok
  · cases h
end Go.Proofs.Ytpggklkofilmfaa
