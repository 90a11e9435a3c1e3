/- The table of types of the translation. -/
import Derived.Test.YtjemilhbipaepaaProg
import Derived.Test.YtjemilhbipaepaaX2
import Derived.KernelRfl
namespace Go.Proofs.Ytjemilhbipaepaa

def ti2 : TI := { desc := TypeDesc.int IntKind.i64, size := 1, bytes := 8, zero := Value.int IntKind.i64 0 }
theorem ti2_ok : TI.ok Try.prog 2 ti2 := ⟨Try.underlying2, by kernel_rfl⟩
def ti3 : TI := { desc := TypeDesc.int IntKind.i64, size := 1, bytes := 8, zero := Value.int IntKind.i64 0 }
theorem ti3_ok : TI.ok Try.prog 3 ti3 := ⟨Try.underlying3, by kernel_rfl⟩
def ti4 : TI := { desc := TypeDesc.bool, size := 1, bytes := 1, zero := Value.bool false }
theorem ti4_ok : TI.ok Try.prog 4 ti4 := ⟨Try.underlying4, by kernel_rfl⟩
def ti5 : TI := { desc := TypeDesc.int IntKind.u8, size := 1, bytes := 1, zero := Value.int IntKind.u8 0 }
theorem ti5_ok : TI.ok Try.prog 5 ti5 := ⟨Try.underlying5, by kernel_rfl⟩
def ti6 : TI := { desc := TypeDesc.int IntKind.u8, size := 1, bytes := 1, zero := Value.int IntKind.u8 0 }
theorem ti6_ok : TI.ok Try.prog 6 ti6 := ⟨Try.underlying6, by kernel_rfl⟩
def ti9 : TI := { desc := TypeDesc.string, size := 1, bytes := 16, zero := Value.string { data := #[] } }
theorem ti9_ok : TI.ok Try.prog 9 ti9 := ⟨Try.underlying9, by kernel_rfl⟩
def ti10 : TI := { desc := TypeDesc.string, size := 1, bytes := 16, zero := Value.string { data := #[] } }
theorem ti10_ok : TI.ok Try.prog 10 ti10 := ⟨Try.underlying10, by kernel_rfl⟩
def ti11 : TI := { desc := TypeDesc.string, size := 1, bytes := 16, zero := Value.string { data := #[] } }
theorem ti11_ok : TI.ok Try.prog 11 ti11 := ⟨Try.underlying11, by kernel_rfl⟩
def ti12 : TI := { desc := TypeDesc.int IntKind.u64, size := 1, bytes := 8, zero := Value.int IntKind.u64 0 }
theorem ti12_ok : TI.ok Try.prog 12 ti12 := ⟨Try.underlying12, by kernel_rfl⟩
def ti15 : TI := { desc := TypeDesc.pointer 95, size := 1, bytes := 8, zero := Value.pointer none }
theorem ti15_ok : TI.ok Try.prog 15 ti15 := ⟨Try.underlying15, by kernel_rfl⟩
def ti16 : TI := { desc := TypeDesc.pointer 98, size := 1, bytes := 8, zero := Value.pointer none }
theorem ti16_ok : TI.ok Try.prog 16 ti16 := ⟨Try.underlying16, by kernel_rfl⟩
def ti17 : TI := { desc := TypeDesc.pointer 108, size := 1, bytes := 8, zero := Value.pointer none }
theorem ti17_ok : TI.ok Try.prog 17 ti17 := ⟨Try.underlying17, by kernel_rfl⟩
def ti20 : TI := { desc := TypeDesc.interface #[], size := 1, bytes := 16, zero := Value.nilIface }
theorem ti20_ok : TI.ok Try.prog 20 ti20 := ⟨Try.underlying20, by kernel_rfl⟩
def ti21 : TI := { desc := TypeDesc.int IntKind.i32, size := 1, bytes := 4, zero := Value.int IntKind.i32 0 }
theorem ti21_ok : TI.ok Try.prog 21 ti21 := ⟨Try.underlying21, by kernel_rfl⟩
def ti22 : TI := { desc := TypeDesc.slice 5, size := 1, bytes := 24, zero := Value.slice none 0 0 }
theorem ti22_ok : TI.ok Try.prog 22 ti22 := ⟨Try.underlying22, by kernel_rfl⟩
def ti24 : TI := { desc := TypeDesc.int IntKind.u16, size := 1, bytes := 2, zero := Value.int IntKind.u16 0 }
theorem ti24_ok : TI.ok Try.prog 24 ti24 := ⟨Try.underlying24, by kernel_rfl⟩
def ti28 : TI := { desc := TypeDesc.slice 62, size := 1, bytes := 24, zero := Value.slice none 0 0 }
theorem ti28_ok : TI.ok Try.prog 28 ti28 := ⟨Try.underlying28, by kernel_rfl⟩
def ti29 : TI := { desc := TypeDesc.slice 62, size := 1, bytes := 24, zero := Value.slice none 0 0 }
theorem ti29_ok : TI.ok Try.prog 29 ti29 := ⟨Try.underlying29, by kernel_rfl⟩
def ti30 : TI := { desc := TypeDesc.slice 53, size := 1, bytes := 24, zero := Value.slice none 0 0 }
theorem ti30_ok : TI.ok Try.prog 30 ti30 := ⟨Try.underlying30, by kernel_rfl⟩
def ti32 : TI := { desc := TypeDesc.slice 22, size := 1, bytes := 24, zero := Value.slice none 0 0 }
theorem ti32_ok : TI.ok Try.prog 32 ti32 := ⟨Try.underlying32, by kernel_rfl⟩
def ti34 : TI := { desc := TypeDesc.int IntKind.i64, size := 1, bytes := 8, zero := Value.int IntKind.i64 0 }
theorem ti34_ok : TI.ok Try.prog 34 ti34 := ⟨Try.underlying34, by kernel_rfl⟩
def ti43 : TI := { desc := TypeDesc.array 2 5, size := 2, bytes := 2, zero := Value.agg #[Value.int IntKind.u8 0, Value.int IntKind.u8 0] }
theorem ti43_ok : TI.ok Try.prog 43 ti43 := ⟨Try.underlying43, by kernel_rfl⟩
def ti44 : TI := { desc := TypeDesc.int IntKind.u64, size := 1, bytes := 8, zero := Value.int IntKind.u64 0 }
theorem ti44_ok : TI.ok Try.prog 44 ti44 := ⟨Try.underlying44, by kernel_rfl⟩
def ti47 : TI := { desc := TypeDesc.int IntKind.u8, size := 1, bytes := 1, zero := Value.int IntKind.u8 0 }
theorem ti47_ok : TI.ok Try.prog 47 ti47 := ⟨Try.underlying47, by kernel_rfl⟩
def ti48 : TI := { desc := TypeDesc.int IntKind.u8, size := 1, bytes := 1, zero := Value.int IntKind.u8 0 }
theorem ti48_ok : TI.ok Try.prog 48 ti48 := ⟨Try.underlying48, by kernel_rfl⟩
def ti49 : TI := { desc := TypeDesc.int IntKind.u8, size := 1, bytes := 1, zero := Value.int IntKind.u8 0 }
theorem ti49_ok : TI.ok Try.prog 49 ti49 := ⟨Try.underlying49, by kernel_rfl⟩
def ti50 : TI := { desc := TypeDesc.struct #[{ name := "Bed", type := 49, offset := 0, embedded := false, tag := "", pkgPath := "", byteOffset := 0 }, { name := "At", type := 3, offset := 1, embedded := false, tag := "", pkgPath := "", byteOffset := 8 }], size := 2, bytes := 16, zero := Value.agg #[Value.int IntKind.u8 0, Value.int IntKind.i64 0] }
theorem ti50_ok : TI.ok Try.prog 50 ti50 := ⟨Try.underlying50, by kernel_rfl⟩
def ti51 : TI := { desc := TypeDesc.struct #[{ name := "Bed", type := 49, offset := 0, embedded := false, tag := "", pkgPath := "", byteOffset := 0 }, { name := "At", type := 3, offset := 1, embedded := false, tag := "", pkgPath := "", byteOffset := 8 }], size := 2, bytes := 16, zero := Value.agg #[Value.int IntKind.u8 0, Value.int IntKind.i64 0] }
theorem ti51_ok : TI.ok Try.prog 51 ti51 := ⟨Try.underlying51, by kernel_rfl⟩
def ti52 : TI := { desc := TypeDesc.struct #[{ name := "Kind", type := 47, offset := 0, embedded := false, tag := "", pkgPath := "", byteOffset := 0 }, { name := "Dir", type := 48, offset := 1, embedded := false, tag := "", pkgPath := "", byteOffset := 1 }, { name := "Needle", type := 51, offset := 2, embedded := false, tag := "", pkgPath := "", byteOffset := 8 }, { name := "Yarn", type := 5, offset := 4, embedded := false, tag := "", pkgPath := "", byteOffset := 24 }, { name := "Rack", type := 3, offset := 5, embedded := false, tag := "", pkgPath := "", byteOffset := 32 }], size := 6, bytes := 40, zero := Value.agg #[Value.int IntKind.u8 0, Value.int IntKind.u8 0, Value.int IntKind.u8 0, Value.int IntKind.i64 0, Value.int IntKind.u8 0, Value.int IntKind.i64 0] }
theorem ti52_ok : TI.ok Try.prog 52 ti52 := ⟨Try.underlying52, by kernel_rfl⟩
def ti53 : TI := { desc := TypeDesc.struct #[{ name := "Kind", type := 47, offset := 0, embedded := false, tag := "", pkgPath := "", byteOffset := 0 }, { name := "Dir", type := 48, offset := 1, embedded := false, tag := "", pkgPath := "", byteOffset := 1 }, { name := "Needle", type := 51, offset := 2, embedded := false, tag := "", pkgPath := "", byteOffset := 8 }, { name := "Yarn", type := 5, offset := 4, embedded := false, tag := "", pkgPath := "", byteOffset := 24 }, { name := "Rack", type := 3, offset := 5, embedded := false, tag := "", pkgPath := "", byteOffset := 32 }], size := 6, bytes := 40, zero := Value.agg #[Value.int IntKind.u8 0, Value.int IntKind.u8 0, Value.int IntKind.u8 0, Value.int IntKind.i64 0, Value.int IntKind.u8 0, Value.int IntKind.i64 0] }
theorem ti53_ok : TI.ok Try.prog 53 ti53 := ⟨Try.underlying53, by kernel_rfl⟩
def ti60 : TI := { desc := TypeDesc.slice 3, size := 1, bytes := 24, zero := Value.slice none 0 0 }
theorem ti60_ok : TI.ok Try.prog 60 ti60 := ⟨Try.underlying60, by kernel_rfl⟩
def ti61 : TI := { desc := TypeDesc.struct #[{ name := "Kind", type := 5, offset := 0, embedded := false, tag := "", pkgPath := "", byteOffset := 0 }, { name := "Dir", type := 5, offset := 1, embedded := false, tag := "", pkgPath := "", byteOffset := 1 }, { name := "Bed", type := 5, offset := 2, embedded := false, tag := "", pkgPath := "", byteOffset := 2 }, { name := "At", type := 5, offset := 3, embedded := false, tag := "", pkgPath := "", byteOffset := 3 }, { name := "Yarn", type := 5, offset := 4, embedded := false, tag := "", pkgPath := "", byteOffset := 4 }, { name := "Rack", type := 5, offset := 5, embedded := false, tag := "", pkgPath := "", byteOffset := 5 }], size := 6, bytes := 6, zero := Value.agg #[Value.int IntKind.u8 0, Value.int IntKind.u8 0, Value.int IntKind.u8 0, Value.int IntKind.u8 0, Value.int IntKind.u8 0, Value.int IntKind.u8 0] }
theorem ti61_ok : TI.ok Try.prog 61 ti61 := ⟨Try.underlying61, by kernel_rfl⟩
def ti62 : TI := { desc := TypeDesc.struct #[{ name := "Kind", type := 5, offset := 0, embedded := false, tag := "", pkgPath := "", byteOffset := 0 }, { name := "Dir", type := 5, offset := 1, embedded := false, tag := "", pkgPath := "", byteOffset := 1 }, { name := "Bed", type := 5, offset := 2, embedded := false, tag := "", pkgPath := "", byteOffset := 2 }, { name := "At", type := 5, offset := 3, embedded := false, tag := "", pkgPath := "", byteOffset := 3 }, { name := "Yarn", type := 5, offset := 4, embedded := false, tag := "", pkgPath := "", byteOffset := 4 }, { name := "Rack", type := 5, offset := 5, embedded := false, tag := "", pkgPath := "", byteOffset := 5 }], size := 6, bytes := 6, zero := Value.agg #[Value.int IntKind.u8 0, Value.int IntKind.u8 0, Value.int IntKind.u8 0, Value.int IntKind.u8 0, Value.int IntKind.u8 0, Value.int IntKind.u8 0] }
theorem ti62_ok : TI.ok Try.prog 62 ti62 := ⟨Try.underlying62, by kernel_rfl⟩
def ti86 : TI := { desc := TypeDesc.struct #[{ name := "dir", type := 4, offset := 0, embedded := false, tag := "", pkgPath := "gansey/operations", byteOffset := 0 }, { name := "needle", type := 4, offset := 1, embedded := false, tag := "", pkgPath := "gansey/operations", byteOffset := 1 }, { name := "yarn", type := 4, offset := 2, embedded := false, tag := "", pkgPath := "gansey/operations", byteOffset := 2 }, { name := "rack", type := 4, offset := 3, embedded := false, tag := "", pkgPath := "gansey/operations", byteOffset := 3 }], size := 4, bytes := 4, zero := Value.agg #[Value.bool false, Value.bool false, Value.bool false, Value.bool false] }
theorem ti86_ok : TI.ok Try.prog 86 ti86 := ⟨Try.underlying86, by kernel_rfl⟩
def ti87 : TI := { desc := TypeDesc.struct #[{ name := "dir", type := 4, offset := 0, embedded := false, tag := "", pkgPath := "gansey/operations", byteOffset := 0 }, { name := "needle", type := 4, offset := 1, embedded := false, tag := "", pkgPath := "gansey/operations", byteOffset := 1 }, { name := "yarn", type := 4, offset := 2, embedded := false, tag := "", pkgPath := "gansey/operations", byteOffset := 2 }, { name := "rack", type := 4, offset := 3, embedded := false, tag := "", pkgPath := "gansey/operations", byteOffset := 3 }], size := 4, bytes := 4, zero := Value.agg #[Value.bool false, Value.bool false, Value.bool false, Value.bool false] }
theorem ti87_ok : TI.ok Try.prog 87 ti87 := ⟨Try.underlying87, by kernel_rfl⟩
def ti89 : TI := { desc := TypeDesc.map 47 87, size := 1, bytes := 8, zero := Value.map none }
theorem ti89_ok : TI.ok Try.prog 89 ti89 := ⟨Try.underlying89, by kernel_rfl⟩
def ti96 : TI := { desc := TypeDesc.array 0 16, size := 0, bytes := 0, zero := Value.agg #[] }
theorem ti96_ok : TI.ok Try.prog 96 ti96 := ⟨Try.underlying96, by kernel_rfl⟩
def ti100 : TI := { desc := TypeDesc.int IntKind.u32, size := 1, bytes := 4, zero := Value.int IntKind.u32 0 }
theorem ti100_ok : TI.ok Try.prog 100 ti100 := ⟨Try.underlying100, by kernel_rfl⟩
def ti101 : TI := { desc := TypeDesc.int IntKind.u8, size := 1, bytes := 1, zero := Value.int IntKind.u8 0 }
theorem ti101_ok : TI.ok Try.prog 101 ti101 := ⟨Try.underlying101, by kernel_rfl⟩
def ti102 : TI := { desc := TypeDesc.int IntKind.u8, size := 1, bytes := 1, zero := Value.int IntKind.u8 0 }
theorem ti102_ok : TI.ok Try.prog 102 ti102 := ⟨Try.underlying102, by kernel_rfl⟩
def ti104 : TI := { desc := TypeDesc.pointer 5, size := 1, bytes := 8, zero := Value.pointer none }
theorem ti104_ok : TI.ok Try.prog 104 ti104 := ⟨Try.underlying104, by kernel_rfl⟩
def ti105 : TI := { desc := TypeDesc.int IntKind.i32, size := 1, bytes := 4, zero := Value.int IntKind.i32 0 }
theorem ti105_ok : TI.ok Try.prog 105 ti105 := ⟨Try.underlying105, by kernel_rfl⟩
def ti106 : TI := { desc := TypeDesc.int IntKind.i32, size := 1, bytes := 4, zero := Value.int IntKind.i32 0 }
theorem ti106_ok : TI.ok Try.prog 106 ti106 := ⟨Try.underlying106, by kernel_rfl⟩
def ti107 : TI := { desc := TypeDesc.struct #[{ name := "Size_", type := 12, offset := 0, embedded := false, tag := "", pkgPath := "", byteOffset := 0 }, { name := "PtrBytes", type := 12, offset := 1, embedded := false, tag := "", pkgPath := "", byteOffset := 8 }, { name := "Hash", type := 100, offset := 2, embedded := false, tag := "", pkgPath := "", byteOffset := 16 }, { name := "TFlag", type := 101, offset := 3, embedded := false, tag := "", pkgPath := "", byteOffset := 20 }, { name := "Align_", type := 5, offset := 4, embedded := false, tag := "", pkgPath := "", byteOffset := 21 }, { name := "FieldAlign_", type := 5, offset := 5, embedded := false, tag := "", pkgPath := "", byteOffset := 22 }, { name := "Kind_", type := 102, offset := 6, embedded := false, tag := "", pkgPath := "", byteOffset := 23 }, { name := "Equal", type := 103, offset := 7, embedded := false, tag := "", pkgPath := "", byteOffset := 24 }, { name := "GCData", type := 104, offset := 8, embedded := false, tag := "", pkgPath := "", byteOffset := 32 }, { name := "Str", type := 105, offset := 9, embedded := false, tag := "", pkgPath := "", byteOffset := 40 }, { name := "PtrToThis", type := 106, offset := 10, embedded := false, tag := "", pkgPath := "", byteOffset := 44 }], size := 11, bytes := 48, zero := Value.agg #[Value.int IntKind.u64 0, Value.int IntKind.u64 0, Value.int IntKind.u32 0, Value.int IntKind.u8 0, Value.int IntKind.u8 0, Value.int IntKind.u8 0, Value.int IntKind.u8 0, Value.nilFunc, Value.pointer none, Value.int IntKind.i32 0, Value.int IntKind.i32 0] }
theorem ti107_ok : TI.ok Try.prog 107 ti107 := ⟨Try.underlying107, by kernel_rfl⟩
def ti108 : TI := { desc := TypeDesc.struct #[{ name := "Size_", type := 12, offset := 0, embedded := false, tag := "", pkgPath := "", byteOffset := 0 }, { name := "PtrBytes", type := 12, offset := 1, embedded := false, tag := "", pkgPath := "", byteOffset := 8 }, { name := "Hash", type := 100, offset := 2, embedded := false, tag := "", pkgPath := "", byteOffset := 16 }, { name := "TFlag", type := 101, offset := 3, embedded := false, tag := "", pkgPath := "", byteOffset := 20 }, { name := "Align_", type := 5, offset := 4, embedded := false, tag := "", pkgPath := "", byteOffset := 21 }, { name := "FieldAlign_", type := 5, offset := 5, embedded := false, tag := "", pkgPath := "", byteOffset := 22 }, { name := "Kind_", type := 102, offset := 6, embedded := false, tag := "", pkgPath := "", byteOffset := 23 }, { name := "Equal", type := 103, offset := 7, embedded := false, tag := "", pkgPath := "", byteOffset := 24 }, { name := "GCData", type := 104, offset := 8, embedded := false, tag := "", pkgPath := "", byteOffset := 32 }, { name := "Str", type := 105, offset := 9, embedded := false, tag := "", pkgPath := "", byteOffset := 40 }, { name := "PtrToThis", type := 106, offset := 10, embedded := false, tag := "", pkgPath := "", byteOffset := 44 }], size := 11, bytes := 48, zero := Value.agg #[Value.int IntKind.u64 0, Value.int IntKind.u64 0, Value.int IntKind.u32 0, Value.int IntKind.u8 0, Value.int IntKind.u8 0, Value.int IntKind.u8 0, Value.int IntKind.u8 0, Value.nilFunc, Value.pointer none, Value.int IntKind.i32 0, Value.int IntKind.i32 0] }
theorem ti108_ok : TI.ok Try.prog 108 ti108 := ⟨Try.underlying108, by kernel_rfl⟩
def ti109 : TI := { desc := TypeDesc.unsafePointer, size := 1, bytes := 8, zero := Value.pointer none }
theorem ti109_ok : TI.ok Try.prog 109 ti109 := ⟨Try.underlying109, by kernel_rfl⟩
def tab : List (TypeId × TI) := [(2, ti2), (3, ti3), (4, ti4), (5, ti5), (6, ti6), (9, ti9), (10, ti10), (11, ti11), (12, ti12), (15, ti15), (16, ti16), (17, ti17), (20, ti20), (21, ti21), (22, ti22), (24, ti24), (28, ti28), (29, ti29), (30, ti30), (32, ti32), (34, ti34), (43, ti43), (44, ti44), (47, ti47), (48, ti48), (49, ti49), (50, ti50), (51, ti51), (52, ti52), (53, ti53), (60, ti60), (61, ti61), (62, ti62), (86, ti86), (87, ti87), (89, ti89), (96, ti96), (100, ti100), (101, ti101), (102, ti102), (104, ti104), (105, ti105), (106, ti106), (107, ti107), (108, ti108), (109, ti109)]
theorem tab_ok : TabOk Try.prog tab := TabOk.cons ti2_ok (TabOk.cons ti3_ok (TabOk.cons ti4_ok (TabOk.cons ti5_ok (TabOk.cons ti6_ok (TabOk.cons ti9_ok (TabOk.cons ti10_ok (TabOk.cons ti11_ok (TabOk.cons ti12_ok (TabOk.cons ti15_ok (TabOk.cons ti16_ok (TabOk.cons ti17_ok (TabOk.cons ti20_ok (TabOk.cons ti21_ok (TabOk.cons ti22_ok (TabOk.cons ti24_ok (TabOk.cons ti28_ok (TabOk.cons ti29_ok (TabOk.cons ti30_ok (TabOk.cons ti32_ok (TabOk.cons ti34_ok (TabOk.cons ti43_ok (TabOk.cons ti44_ok (TabOk.cons ti47_ok (TabOk.cons ti48_ok (TabOk.cons ti49_ok (TabOk.cons ti50_ok (TabOk.cons ti51_ok (TabOk.cons ti52_ok (TabOk.cons ti53_ok (TabOk.cons ti60_ok (TabOk.cons ti61_ok (TabOk.cons ti62_ok (TabOk.cons ti86_ok (TabOk.cons ti87_ok (TabOk.cons ti89_ok (TabOk.cons ti96_ok (TabOk.cons ti100_ok (TabOk.cons ti101_ok (TabOk.cons ti102_ok (TabOk.cons ti104_ok (TabOk.cons ti105_ok (TabOk.cons ti106_ok (TabOk.cons ti107_ok (TabOk.cons ti108_ok (TabOk.cons ti109_ok (TabOk.nil _))))))))))))))))))))))))))))))))))))))))))))))
end Go.Proofs.Ytjemilhbipaepaa
