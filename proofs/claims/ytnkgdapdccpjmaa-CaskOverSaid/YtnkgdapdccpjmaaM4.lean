import Derived.Test.YtnkgdapdccpjmaaM3
import Derived.Test.YtnkgdapdccpjmaaProg
/- The types of the seat. -/
namespace Go.Proofs.Ytnkgdapdccpjmaa
open Go Go.RowKit Go.Sx

def ti3 : TI := { desc := TypeDesc.int IntKind.i64, size := 1, agg := false, bytes := 8, zero := [.int IntKind.i64 0], zv := Value.int IntKind.i64 0 }
def ti4 : TI := { desc := TypeDesc.bool, size := 1, agg := false, bytes := 1, zero := [.bool false], zv := Value.bool false }
def ti5 : TI := { desc := TypeDesc.int IntKind.u8, size := 1, agg := false, bytes := 1, zero := [.int IntKind.u8 0], zv := Value.int IntKind.u8 0 }
def ti9 : TI := { desc := TypeDesc.string, size := 1, agg := false, bytes := 16, zero := [.lit (Value.string { data := #[] })], zv := Value.string { data := #[] } }
def ti22 : TI := { desc := TypeDesc.slice 51, size := 1, agg := false, bytes := 24, zero := [.lit (Value.slice none 0 0)], zv := Value.slice none 0 0 }
def ti23 : TI := { desc := TypeDesc.slice 55, size := 1, agg := false, bytes := 24, zero := [.lit (Value.slice none 0 0)], zv := Value.slice none 0 0 }
def ti24 : TI := { desc := TypeDesc.slice 30, size := 1, agg := false, bytes := 24, zero := [.lit (Value.slice none 0 0)], zv := Value.slice none 0 0 }
def ti26 : TI := { desc := TypeDesc.struct #[{ name := "Casks", type := 22, offset := 0, embedded := false, tag := "", pkgPath := "", byteOffset := 0 }, { name := "Moves", type := 23, offset := 1, embedded := false, tag := "", pkgPath := "", byteOffset := 24 }, { name := "Gauges", type := 24, offset := 2, embedded := false, tag := "", pkgPath := "", byteOffset := 48 }], size := 3, agg := true, bytes := 72, zero := [.lit (Value.slice none 0 0), .lit (Value.slice none 0 0), .lit (Value.slice none 0 0)], zv := Value.agg #[Value.slice none 0 0, Value.slice none 0 0, Value.slice none 0 0] }
def ti28 : TI := { desc := TypeDesc.struct #[{ name := "Lo", type := 3, offset := 0, embedded := false, tag := "", pkgPath := "", byteOffset := 0 }, { name := "Hi", type := 3, offset := 1, embedded := false, tag := "", pkgPath := "", byteOffset := 8 }], size := 2, agg := true, bytes := 16, zero := [.int IntKind.i64 0, .int IntKind.i64 0], zv := Value.agg #[Value.int IntKind.i64 0, Value.int IntKind.i64 0] }
def ti30 : TI := { desc := TypeDesc.struct #[{ name := "Cask", type := 3, offset := 0, embedded := false, tag := "", pkgPath := "", byteOffset := 0 }, { name := "After", type := 3, offset := 1, embedded := false, tag := "", pkgPath := "", byteOffset := 8 }, { name := "Dip", type := 28, offset := 2, embedded := false, tag := "", pkgPath := "", byteOffset := 16 }, { name := "Dry", type := 4, offset := 4, embedded := false, tag := "", pkgPath := "", byteOffset := 32 }], size := 5, agg := true, bytes := 40, zero := [.int IntKind.i64 0, .int IntKind.i64 0, .int IntKind.i64 0, .int IntKind.i64 0, .bool false], zv := Value.agg #[Value.int IntKind.i64 0, Value.int IntKind.i64 0, Value.int IntKind.i64 0, Value.int IntKind.i64 0, Value.bool false] }
def ti33 : TI := { desc := TypeDesc.slice 59, size := 1, agg := false, bytes := 24, zero := [.lit (Value.slice none 0 0)], zv := Value.slice none 0 0 }
def ti34 : TI := { desc := TypeDesc.int IntKind.i64, size := 1, agg := false, bytes := 8, zero := [.int IntKind.i64 0], zv := Value.int IntKind.i64 0 }
def ti37 : TI := { desc := TypeDesc.slice 104, size := 1, agg := false, bytes := 24, zero := [.lit (Value.slice none 0 0)], zv := Value.slice none 0 0 }
def ti38 : TI := { desc := TypeDesc.slice 108, size := 1, agg := false, bytes := 24, zero := [.lit (Value.slice none 0 0)], zv := Value.slice none 0 0 }
def ti39 : TI := { desc := TypeDesc.slice 100, size := 1, agg := false, bytes := 24, zero := [.lit (Value.slice none 0 0)], zv := Value.slice none 0 0 }
def ti41 : TI := { desc := TypeDesc.struct #[{ name := "Casks", type := 37, offset := 0, embedded := false, tag := "", pkgPath := "", byteOffset := 0 }, { name := "Moves", type := 38, offset := 1, embedded := false, tag := "", pkgPath := "", byteOffset := 24 }, { name := "Gauges", type := 39, offset := 2, embedded := false, tag := "", pkgPath := "", byteOffset := 48 }], size := 3, agg := true, bytes := 72, zero := [.lit (Value.slice none 0 0), .lit (Value.slice none 0 0), .lit (Value.slice none 0 0)], zv := Value.agg #[Value.slice none 0 0, Value.slice none 0 0, Value.slice none 0 0] }
def ti43 : TI := { desc := TypeDesc.slice 3, size := 1, agg := false, bytes := 24, zero := [.lit (Value.slice none 0 0)], zv := Value.slice none 0 0 }
def ti49 : TI := { desc := TypeDesc.slice 124, size := 1, agg := false, bytes := 24, zero := [.lit (Value.slice none 0 0)], zv := Value.slice none 0 0 }
def ti51 : TI := { desc := TypeDesc.struct #[{ name := "Marks", type := 49, offset := 0, embedded := false, tag := "", pkgPath := "", byteOffset := 0 }, { name := "Start", type := 28, offset := 1, embedded := false, tag := "", pkgPath := "", byteOffset := 24 }, { name := "Leak", type := 28, offset := 3, embedded := false, tag := "", pkgPath := "", byteOffset := 40 }], size := 5, agg := true, bytes := 56, zero := [.lit (Value.slice none 0 0), .int IntKind.i64 0, .int IntKind.i64 0, .int IntKind.i64 0, .int IntKind.i64 0], zv := Value.agg #[Value.slice none 0 0, Value.int IntKind.i64 0, Value.int IntKind.i64 0, Value.int IntKind.i64 0, Value.int IntKind.i64 0] }
def ti55 : TI := { desc := TypeDesc.struct #[{ name := "From", type := 3, offset := 0, embedded := false, tag := "", pkgPath := "", byteOffset := 0 }, { name := "To", type := 3, offset := 1, embedded := false, tag := "", pkgPath := "", byteOffset := 8 }, { name := "Quantity", type := 28, offset := 2, embedded := false, tag := "", pkgPath := "", byteOffset := 16 }], size := 4, agg := true, bytes := 32, zero := [.int IntKind.i64 0, .int IntKind.i64 0, .int IntKind.i64 0, .int IntKind.i64 0], zv := Value.agg #[Value.int IntKind.i64 0, Value.int IntKind.i64 0, Value.int IntKind.i64 0, Value.int IntKind.i64 0] }
def ti59 : TI := { desc := TypeDesc.slice 64, size := 1, agg := false, bytes := 24, zero := [.lit (Value.slice none 0 0)], zv := Value.slice none 0 0 }
def ti64 : TI := { desc := TypeDesc.struct #[{ name := "Lo", type := 3, offset := 0, embedded := false, tag := "", pkgPath := "", byteOffset := 0 }, { name := "Hi", type := 3, offset := 1, embedded := false, tag := "", pkgPath := "", byteOffset := 8 }], size := 2, agg := true, bytes := 16, zero := [.int IntKind.i64 0, .int IntKind.i64 0], zv := Value.agg #[Value.int IntKind.i64 0, Value.int IntKind.i64 0] }
def ti67 : TI := { desc := TypeDesc.struct #[{ name := "Start", type := 43, offset := 0, embedded := false, tag := "", pkgPath := "", byteOffset := 0 }, { name := "Leak", type := 43, offset := 1, embedded := false, tag := "", pkgPath := "", byteOffset := 24 }, { name := "Quantity", type := 43, offset := 2, embedded := false, tag := "", pkgPath := "", byteOffset := 48 }], size := 3, agg := true, bytes := 72, zero := [.lit (Value.slice none 0 0), .lit (Value.slice none 0 0), .lit (Value.slice none 0 0)], zv := Value.agg #[Value.slice none 0 0, Value.slice none 0 0, Value.slice none 0 0] }
def ti69 : TI := { desc := TypeDesc.slice 43, size := 1, agg := false, bytes := 24, zero := [.lit (Value.slice none 0 0)], zv := Value.slice none 0 0 }
def ti72 : TI := { desc := TypeDesc.struct #[{ name := "Start", type := 43, offset := 0, embedded := false, tag := "", pkgPath := "", byteOffset := 0 }, { name := "Leak", type := 43, offset := 1, embedded := false, tag := "", pkgPath := "", byteOffset := 24 }, { name := "Quantity", type := 43, offset := 2, embedded := false, tag := "", pkgPath := "", byteOffset := 48 }], size := 3, agg := true, bytes := 72, zero := [.lit (Value.slice none 0 0), .lit (Value.slice none 0 0), .lit (Value.slice none 0 0)], zv := Value.agg #[Value.slice none 0 0, Value.slice none 0 0, Value.slice none 0 0] }
def ti80 : TI := { desc := TypeDesc.slice 170, size := 1, agg := false, bytes := 24, zero := [.lit (Value.slice none 0 0)], zv := Value.slice none 0 0 }
def ti90 : TI := { desc := TypeDesc.slice 154, size := 1, agg := false, bytes := 24, zero := [.lit (Value.slice none 0 0)], zv := Value.slice none 0 0 }
def ti100 : TI := { desc := TypeDesc.struct #[{ name := "Cask", type := 3, offset := 0, embedded := false, tag := "", pkgPath := "", byteOffset := 0 }, { name := "After", type := 3, offset := 1, embedded := false, tag := "", pkgPath := "", byteOffset := 8 }, { name := "Dip", type := 64, offset := 2, embedded := false, tag := "", pkgPath := "", byteOffset := 16 }, { name := "Dry", type := 4, offset := 4, embedded := false, tag := "", pkgPath := "", byteOffset := 32 }], size := 5, agg := true, bytes := 40, zero := [.int IntKind.i64 0, .int IntKind.i64 0, .int IntKind.i64 0, .int IntKind.i64 0, .bool false], zv := Value.agg #[Value.int IntKind.i64 0, Value.int IntKind.i64 0, Value.int IntKind.i64 0, Value.int IntKind.i64 0, Value.bool false] }
def ti102 : TI := { desc := TypeDesc.slice 106, size := 1, agg := false, bytes := 24, zero := [.lit (Value.slice none 0 0)], zv := Value.slice none 0 0 }
def ti104 : TI := { desc := TypeDesc.struct #[{ name := "Marks", type := 102, offset := 0, embedded := false, tag := "", pkgPath := "", byteOffset := 0 }, { name := "Start", type := 64, offset := 1, embedded := false, tag := "", pkgPath := "", byteOffset := 24 }, { name := "Leak", type := 64, offset := 3, embedded := false, tag := "", pkgPath := "", byteOffset := 40 }], size := 5, agg := true, bytes := 56, zero := [.lit (Value.slice none 0 0), .int IntKind.i64 0, .int IntKind.i64 0, .int IntKind.i64 0, .int IntKind.i64 0], zv := Value.agg #[Value.slice none 0 0, Value.int IntKind.i64 0, Value.int IntKind.i64 0, Value.int IntKind.i64 0, Value.int IntKind.i64 0] }
def ti106 : TI := { desc := TypeDesc.struct #[{ name := "Dip", type := 3, offset := 0, embedded := false, tag := "", pkgPath := "", byteOffset := 0 }, { name := "Content", type := 3, offset := 1, embedded := false, tag := "", pkgPath := "", byteOffset := 8 }], size := 2, agg := true, bytes := 16, zero := [.int IntKind.i64 0, .int IntKind.i64 0], zv := Value.agg #[Value.int IntKind.i64 0, Value.int IntKind.i64 0] }
def ti108 : TI := { desc := TypeDesc.struct #[{ name := "From", type := 3, offset := 0, embedded := false, tag := "", pkgPath := "", byteOffset := 0 }, { name := "To", type := 3, offset := 1, embedded := false, tag := "", pkgPath := "", byteOffset := 8 }, { name := "Quantity", type := 64, offset := 2, embedded := false, tag := "", pkgPath := "", byteOffset := 16 }], size := 4, agg := true, bytes := 32, zero := [.int IntKind.i64 0, .int IntKind.i64 0, .int IntKind.i64 0, .int IntKind.i64 0], zv := Value.agg #[Value.int IntKind.i64 0, Value.int IntKind.i64 0, Value.int IntKind.i64 0, Value.int IntKind.i64 0] }
def ti110 : TI := { desc := TypeDesc.int IntKind.u64, size := 1, agg := false, bytes := 8, zero := [.int IntKind.u64 0], zv := Value.int IntKind.u64 0 }
def ti114 : TI := { desc := TypeDesc.func #[116] #[59] false, size := 1, agg := false, bytes := 8, zero := [.lit (Value.nilFunc)], zv := Value.nilFunc }
def ti116 : TI := { desc := TypeDesc.pointer 150, size := 1, agg := false, bytes := 8, zero := [.lit (Value.pointer none)], zv := Value.pointer none }
def ti118 : TI := { desc := TypeDesc.struct #[{ name := "of", type := 114, offset := 0, embedded := false, tag := "", pkgPath := "saccharum/cask", byteOffset := 0 }], size := 1, agg := true, bytes := 8, zero := [.lit (Value.nilFunc)], zv := Value.agg #[Value.nilFunc] }
def ti124 : TI := { desc := TypeDesc.struct #[{ name := "Dip", type := 3, offset := 0, embedded := false, tag := "", pkgPath := "", byteOffset := 0 }, { name := "Content", type := 3, offset := 1, embedded := false, tag := "", pkgPath := "", byteOffset := 8 }], size := 2, agg := true, bytes := 16, zero := [.int IntKind.i64 0, .int IntKind.i64 0], zv := Value.agg #[Value.int IntKind.i64 0, Value.int IntKind.i64 0] }
def ti126 : TI := { desc := TypeDesc.func #[43, 3, 3] #[4] false, size := 1, agg := false, bytes := 8, zero := [.lit (Value.nilFunc)], zv := Value.nilFunc }
def ti133 : TI := { desc := TypeDesc.array 4 3, size := 4, agg := true, bytes := 32, zero := [.int IntKind.i64 0, .int IntKind.i64 0, .int IntKind.i64 0, .int IntKind.i64 0], zv := Value.agg #[Value.int IntKind.i64 0, Value.int IntKind.i64 0, Value.int IntKind.i64 0, Value.int IntKind.i64 0] }
def ti139 : TI := { desc := TypeDesc.func #[100] #[4] false, size := 1, agg := false, bytes := 8, zero := [.lit (Value.nilFunc)], zv := Value.nilFunc }
def ti148 : TI := { desc := TypeDesc.map 162 64, size := 1, agg := false, bytes := 8, zero := [.lit (Value.map none)], zv := Value.map none }
def ti150 : TI := { desc := TypeDesc.struct #[{ name := "Cellar", type := 41, offset := 0, embedded := true, tag := "", pkgPath := "", byteOffset := 0 }, { name := "q", type := 133, offset := 3, embedded := false, tag := "", pkgPath := "saccharum/cask", byteOffset := 72 }, { name := "starts", type := 148, offset := 7, embedded := false, tag := "", pkgPath := "saccharum/cask", byteOffset := 104 }], size := 8, agg := true, bytes := 112, zero := [.lit (Value.slice none 0 0), .lit (Value.slice none 0 0), .lit (Value.slice none 0 0), .int IntKind.i64 0, .int IntKind.i64 0, .int IntKind.i64 0, .int IntKind.i64 0, .lit (Value.map none)], zv := Value.agg #[Value.slice none 0 0, Value.slice none 0 0, Value.slice none 0 0, Value.int IntKind.i64 0, Value.int IntKind.i64 0, Value.int IntKind.i64 0, Value.int IntKind.i64 0, Value.map none] }
def ti151 : TI := { desc := TypeDesc.func #[116] #[4] false, size := 1, agg := false, bytes := 8, zero := [.lit (Value.nilFunc)], zv := Value.nilFunc }
def ti154 : TI := { desc := TypeDesc.struct #[{ name := "Contents", type := 69, offset := 0, embedded := false, tag := "", pkgPath := "", byteOffset := 0 }, { name := "Leak", type := 43, offset := 1, embedded := false, tag := "", pkgPath := "", byteOffset := 24 }, { name := "Wrong", type := 3, offset := 2, embedded := false, tag := "", pkgPath := "", byteOffset := 48 }], size := 3, agg := true, bytes := 56, zero := [.lit (Value.slice none 0 0), .lit (Value.slice none 0 0), .int IntKind.i64 0], zv := Value.agg #[Value.slice none 0 0, Value.slice none 0 0, Value.int IntKind.i64 0] }
def ti156 : TI := { desc := TypeDesc.func #[108] #[4] false, size := 1, agg := false, bytes := 8, zero := [.lit (Value.nilFunc)], zv := Value.nilFunc }
def ti157 : TI := { desc := TypeDesc.func #[104] #[4] false, size := 1, agg := false, bytes := 8, zero := [.lit (Value.nilFunc)], zv := Value.nilFunc }
def ti160 : TI := { desc := TypeDesc.slice 4, size := 1, agg := false, bytes := 24, zero := [.lit (Value.slice none 0 0)], zv := Value.slice none 0 0 }
def ti162 : TI := { desc := TypeDesc.struct #[{ name := "cask", type := 3, offset := 0, embedded := false, tag := "", pkgPath := "saccharum/cask", byteOffset := 0 }, { name := "leak", type := 3, offset := 1, embedded := false, tag := "", pkgPath := "saccharum/cask", byteOffset := 8 }], size := 2, agg := true, bytes := 16, zero := [.int IntKind.i64 0, .int IntKind.i64 0], zv := Value.agg #[Value.int IntKind.i64 0, Value.int IntKind.i64 0] }
def ti170 : TI := { desc := TypeDesc.int IntKind.u16, size := 1, agg := false, bytes := 2, zero := [.int IntKind.u16 0], zv := Value.int IntKind.u16 0 }
def ti171 : TI := { desc := TypeDesc.func #[3, 133] #[4] false, size := 1, agg := false, bytes := 8, zero := [.lit (Value.nilFunc)], zv := Value.nilFunc }
def ti181 : TI := { desc := TypeDesc.func #[106] #[4] false, size := 1, agg := false, bytes := 8, zero := [.lit (Value.nilFunc)], zv := Value.nilFunc }

def tabL : List (Nat × Option TI) := [(3, some ti3), (4, some ti4), (5, some ti5), (9, some ti9), (22, some ti22), (23, some ti23), (24, some ti24), (26, some ti26), (28, some ti28), (30, some ti30), (33, some ti33), (34, some ti34), (37, some ti37), (38, some ti38), (39, some ti39), (41, some ti41), (43, some ti43), (49, some ti49), (51, some ti51), (55, some ti55), (59, some ti59), (64, some ti64), (67, some ti67), (69, some ti69), (72, some ti72), (80, some ti80), (90, some ti90), (100, some ti100), (102, some ti102), (104, some ti104), (106, some ti106), (108, some ti108), (110, some ti110), (114, some ti114), (116, some ti116), (118, some ti118), (124, some ti124), (126, some ti126), (133, some ti133), (139, some ti139), (148, some ti148), (150, some ti150), (151, some ti151), (154, some ti154), (156, some ti156), (157, some ti157), (160, some ti160), (162, some ti162), (170, some ti170), (171, some ti171), (181, some ti181)]
def tab : Tab := fun t => lkF tabL (fun _ => none) t
theorem ti3_ok : TIOk Try.prog 3 ti3 := .of ⟨Try.t3, by kernel_rfl, rfl, rfl, rfl⟩ (by kernel_rfl) rfl rfl rfl rfl rfl (.inr ⟨rfl, rfl, rfl⟩)
theorem ti4_ok : TIOk Try.prog 4 ti4 := .of ⟨Try.t4, by kernel_rfl, rfl, rfl, rfl⟩ (by kernel_rfl) rfl rfl rfl rfl rfl (.inr ⟨rfl, rfl, rfl⟩)
theorem ti5_ok : TIOk Try.prog 5 ti5 := .of ⟨Try.t5, by kernel_rfl, rfl, rfl, rfl⟩ (by kernel_rfl) rfl rfl rfl rfl rfl (.inr ⟨rfl, rfl, rfl⟩)
theorem ti9_ok : TIOk Try.prog 9 ti9 := .of ⟨Try.t9, by kernel_rfl, rfl, rfl, rfl⟩ (by kernel_rfl) rfl rfl rfl rfl rfl (.inr ⟨rfl, rfl, rfl⟩)
theorem ti22_ok : TIOk Try.prog 22 ti22 := .of ⟨Try.t22, by kernel_rfl, rfl, rfl, rfl⟩ (by kernel_rfl) rfl rfl rfl rfl rfl (.inr ⟨rfl, rfl, rfl⟩)
theorem ti23_ok : TIOk Try.prog 23 ti23 := .of ⟨Try.t23, by kernel_rfl, rfl, rfl, rfl⟩ (by kernel_rfl) rfl rfl rfl rfl rfl (.inr ⟨rfl, rfl, rfl⟩)
theorem ti24_ok : TIOk Try.prog 24 ti24 := .of ⟨Try.t24, by kernel_rfl, rfl, rfl, rfl⟩ (by kernel_rfl) rfl rfl rfl rfl rfl (.inr ⟨rfl, rfl, rfl⟩)
theorem ti26_ok : TIOk Try.prog 26 ti26 := .of ⟨Try.t26, by kernel_rfl, rfl, rfl, rfl⟩ (by kernel_rfl) rfl rfl rfl rfl rfl (.inl ⟨rfl, _, rfl⟩)
theorem ti28_ok : TIOk Try.prog 28 ti28 := .of ⟨Try.t28, by kernel_rfl, rfl, rfl, rfl⟩ (by kernel_rfl) rfl rfl rfl rfl rfl (.inl ⟨rfl, _, rfl⟩)
theorem ti30_ok : TIOk Try.prog 30 ti30 := .of ⟨Try.t30, by kernel_rfl, rfl, rfl, rfl⟩ (by kernel_rfl) rfl rfl rfl rfl rfl (.inl ⟨rfl, _, rfl⟩)
theorem ti33_ok : TIOk Try.prog 33 ti33 := .of ⟨Try.t33, by kernel_rfl, rfl, rfl, rfl⟩ (by kernel_rfl) rfl rfl rfl rfl rfl (.inr ⟨rfl, rfl, rfl⟩)
theorem ti34_ok : TIOk Try.prog 34 ti34 := .of ⟨Try.t34, by kernel_rfl, rfl, rfl, rfl⟩ (by kernel_rfl) rfl rfl rfl rfl rfl (.inr ⟨rfl, rfl, rfl⟩)
theorem ti37_ok : TIOk Try.prog 37 ti37 := .of ⟨Try.t37, by kernel_rfl, rfl, rfl, rfl⟩ (by kernel_rfl) rfl rfl rfl rfl rfl (.inr ⟨rfl, rfl, rfl⟩)
theorem ti38_ok : TIOk Try.prog 38 ti38 := .of ⟨Try.t38, by kernel_rfl, rfl, rfl, rfl⟩ (by kernel_rfl) rfl rfl rfl rfl rfl (.inr ⟨rfl, rfl, rfl⟩)
theorem ti39_ok : TIOk Try.prog 39 ti39 := .of ⟨Try.t39, by kernel_rfl, rfl, rfl, rfl⟩ (by kernel_rfl) rfl rfl rfl rfl rfl (.inr ⟨rfl, rfl, rfl⟩)
theorem ti41_ok : TIOk Try.prog 41 ti41 := .of ⟨Try.t41, by kernel_rfl, rfl, rfl, rfl⟩ (by kernel_rfl) rfl rfl rfl rfl rfl (.inl ⟨rfl, _, rfl⟩)
theorem ti43_ok : TIOk Try.prog 43 ti43 := .of ⟨Try.t43, by kernel_rfl, rfl, rfl, rfl⟩ (by kernel_rfl) rfl rfl rfl rfl rfl (.inr ⟨rfl, rfl, rfl⟩)
theorem ti49_ok : TIOk Try.prog 49 ti49 := .of ⟨Try.t49, by kernel_rfl, rfl, rfl, rfl⟩ (by kernel_rfl) rfl rfl rfl rfl rfl (.inr ⟨rfl, rfl, rfl⟩)
theorem ti51_ok : TIOk Try.prog 51 ti51 := .of ⟨Try.t51, by kernel_rfl, rfl, rfl, rfl⟩ (by kernel_rfl) rfl rfl rfl rfl rfl (.inl ⟨rfl, _, rfl⟩)
theorem ti55_ok : TIOk Try.prog 55 ti55 := .of ⟨Try.t55, by kernel_rfl, rfl, rfl, rfl⟩ (by kernel_rfl) rfl rfl rfl rfl rfl (.inl ⟨rfl, _, rfl⟩)
theorem ti59_ok : TIOk Try.prog 59 ti59 := .of ⟨Try.t59, by kernel_rfl, rfl, rfl, rfl⟩ (by kernel_rfl) rfl rfl rfl rfl rfl (.inr ⟨rfl, rfl, rfl⟩)
theorem ti64_ok : TIOk Try.prog 64 ti64 := .of ⟨Try.t64, by kernel_rfl, rfl, rfl, rfl⟩ (by kernel_rfl) rfl rfl rfl rfl rfl (.inl ⟨rfl, _, rfl⟩)
theorem ti67_ok : TIOk Try.prog 67 ti67 := .of ⟨Try.t67, by kernel_rfl, rfl, rfl, rfl⟩ (by kernel_rfl) rfl rfl rfl rfl rfl (.inl ⟨rfl, _, rfl⟩)
theorem ti69_ok : TIOk Try.prog 69 ti69 := .of ⟨Try.t69, by kernel_rfl, rfl, rfl, rfl⟩ (by kernel_rfl) rfl rfl rfl rfl rfl (.inr ⟨rfl, rfl, rfl⟩)
theorem ti72_ok : TIOk Try.prog 72 ti72 := .of ⟨Try.t72, by kernel_rfl, rfl, rfl, rfl⟩ (by kernel_rfl) rfl rfl rfl rfl rfl (.inl ⟨rfl, _, rfl⟩)
theorem ti80_ok : TIOk Try.prog 80 ti80 := .of ⟨Try.t80, by kernel_rfl, rfl, rfl, rfl⟩ (by kernel_rfl) rfl rfl rfl rfl rfl (.inr ⟨rfl, rfl, rfl⟩)
theorem ti90_ok : TIOk Try.prog 90 ti90 := .of ⟨Try.t90, by kernel_rfl, rfl, rfl, rfl⟩ (by kernel_rfl) rfl rfl rfl rfl rfl (.inr ⟨rfl, rfl, rfl⟩)
theorem ti100_ok : TIOk Try.prog 100 ti100 := .of ⟨Try.t100, by kernel_rfl, rfl, rfl, rfl⟩ (by kernel_rfl) rfl rfl rfl rfl rfl (.inl ⟨rfl, _, rfl⟩)
theorem ti102_ok : TIOk Try.prog 102 ti102 := .of ⟨Try.t102, by kernel_rfl, rfl, rfl, rfl⟩ (by kernel_rfl) rfl rfl rfl rfl rfl (.inr ⟨rfl, rfl, rfl⟩)
theorem ti104_ok : TIOk Try.prog 104 ti104 := .of ⟨Try.t104, by kernel_rfl, rfl, rfl, rfl⟩ (by kernel_rfl) rfl rfl rfl rfl rfl (.inl ⟨rfl, _, rfl⟩)
theorem ti106_ok : TIOk Try.prog 106 ti106 := .of ⟨Try.t106, by kernel_rfl, rfl, rfl, rfl⟩ (by kernel_rfl) rfl rfl rfl rfl rfl (.inl ⟨rfl, _, rfl⟩)
theorem ti108_ok : TIOk Try.prog 108 ti108 := .of ⟨Try.t108, by kernel_rfl, rfl, rfl, rfl⟩ (by kernel_rfl) rfl rfl rfl rfl rfl (.inl ⟨rfl, _, rfl⟩)
theorem ti110_ok : TIOk Try.prog 110 ti110 := .of ⟨Try.t110, by kernel_rfl, rfl, rfl, rfl⟩ (by kernel_rfl) rfl rfl rfl rfl rfl (.inr ⟨rfl, rfl, rfl⟩)
theorem ti114_ok : TIOk Try.prog 114 ti114 := .of ⟨Try.t114, by kernel_rfl, rfl, rfl, rfl⟩ (by kernel_rfl) rfl rfl rfl rfl rfl (.inr ⟨rfl, rfl, rfl⟩)
theorem ti116_ok : TIOk Try.prog 116 ti116 := .of ⟨Try.t116, by kernel_rfl, rfl, rfl, rfl⟩ (by kernel_rfl) rfl rfl rfl rfl rfl (.inr ⟨rfl, rfl, rfl⟩)
theorem ti118_ok : TIOk Try.prog 118 ti118 := .of ⟨Try.t118, by kernel_rfl, rfl, rfl, rfl⟩ (by kernel_rfl) rfl rfl rfl rfl rfl (.inl ⟨rfl, _, rfl⟩)
theorem ti124_ok : TIOk Try.prog 124 ti124 := .of ⟨Try.t124, by kernel_rfl, rfl, rfl, rfl⟩ (by kernel_rfl) rfl rfl rfl rfl rfl (.inl ⟨rfl, _, rfl⟩)
theorem ti126_ok : TIOk Try.prog 126 ti126 := .of ⟨Try.t126, by kernel_rfl, rfl, rfl, rfl⟩ (by kernel_rfl) rfl rfl rfl rfl rfl (.inr ⟨rfl, rfl, rfl⟩)
theorem ti133_ok : TIOk Try.prog 133 ti133 := .of ⟨Try.t133, by kernel_rfl, rfl, rfl, rfl⟩ (by kernel_rfl) rfl rfl rfl rfl rfl (.inl ⟨rfl, _, rfl⟩)
theorem ti139_ok : TIOk Try.prog 139 ti139 := .of ⟨Try.t139, by kernel_rfl, rfl, rfl, rfl⟩ (by kernel_rfl) rfl rfl rfl rfl rfl (.inr ⟨rfl, rfl, rfl⟩)
theorem ti148_ok : TIOk Try.prog 148 ti148 := .of ⟨Try.t148, by kernel_rfl, rfl, rfl, rfl⟩ (by kernel_rfl) rfl rfl rfl rfl rfl (.inr ⟨rfl, rfl, rfl⟩)
theorem ti150_ok : TIOk Try.prog 150 ti150 := .of ⟨Try.t150, by kernel_rfl, rfl, rfl, rfl⟩ (by kernel_rfl) rfl rfl rfl rfl rfl (.inl ⟨rfl, _, rfl⟩)
theorem ti151_ok : TIOk Try.prog 151 ti151 := .of ⟨Try.t151, by kernel_rfl, rfl, rfl, rfl⟩ (by kernel_rfl) rfl rfl rfl rfl rfl (.inr ⟨rfl, rfl, rfl⟩)
theorem ti154_ok : TIOk Try.prog 154 ti154 := .of ⟨Try.t154, by kernel_rfl, rfl, rfl, rfl⟩ (by kernel_rfl) rfl rfl rfl rfl rfl (.inl ⟨rfl, _, rfl⟩)
theorem ti156_ok : TIOk Try.prog 156 ti156 := .of ⟨Try.t156, by kernel_rfl, rfl, rfl, rfl⟩ (by kernel_rfl) rfl rfl rfl rfl rfl (.inr ⟨rfl, rfl, rfl⟩)
theorem ti157_ok : TIOk Try.prog 157 ti157 := .of ⟨Try.t157, by kernel_rfl, rfl, rfl, rfl⟩ (by kernel_rfl) rfl rfl rfl rfl rfl (.inr ⟨rfl, rfl, rfl⟩)
theorem ti160_ok : TIOk Try.prog 160 ti160 := .of ⟨Try.t160, by kernel_rfl, rfl, rfl, rfl⟩ (by kernel_rfl) rfl rfl rfl rfl rfl (.inr ⟨rfl, rfl, rfl⟩)
theorem ti162_ok : TIOk Try.prog 162 ti162 := .of ⟨Try.t162, by kernel_rfl, rfl, rfl, rfl⟩ (by kernel_rfl) rfl rfl rfl rfl rfl (.inl ⟨rfl, _, rfl⟩)
theorem ti170_ok : TIOk Try.prog 170 ti170 := .of ⟨Try.t170, by kernel_rfl, rfl, rfl, rfl⟩ (by kernel_rfl) rfl rfl rfl rfl rfl (.inr ⟨rfl, rfl, rfl⟩)
theorem ti171_ok : TIOk Try.prog 171 ti171 := .of ⟨Try.t171, by kernel_rfl, rfl, rfl, rfl⟩ (by kernel_rfl) rfl rfl rfl rfl rfl (.inr ⟨rfl, rfl, rfl⟩)
theorem ti181_ok : TIOk Try.prog 181 ti181 := .of ⟨Try.t181, by kernel_rfl, rfl, rfl, rfl⟩ (by kernel_rfl) rfl rfl rfl rfl rfl (.inr ⟨rfl, rfl, rfl⟩)
theorem tabOk : TabOk Try.prog tab := by
  intro t ti h
  refine lk_all (Q := fun t ti => TIOk Try.prog t ti) tabL ?_ h
  exact .cons ti3_ok (.cons ti4_ok (.cons ti5_ok (.cons ti9_ok (.cons ti22_ok (.cons ti23_ok (.cons ti24_ok (.cons ti26_ok (.cons ti28_ok (.cons ti30_ok (.cons ti33_ok (.cons ti34_ok (.cons ti37_ok (.cons ti38_ok (.cons ti39_ok (.cons ti41_ok (.cons ti43_ok (.cons ti49_ok (.cons ti51_ok (.cons ti55_ok (.cons ti59_ok (.cons ti64_ok (.cons ti67_ok (.cons ti69_ok (.cons ti72_ok (.cons ti80_ok (.cons ti90_ok (.cons ti100_ok (.cons ti102_ok (.cons ti104_ok (.cons ti106_ok (.cons ti108_ok (.cons ti110_ok (.cons ti114_ok (.cons ti116_ok (.cons ti118_ok (.cons ti124_ok (.cons ti126_ok (.cons ti133_ok (.cons ti139_ok (.cons ti148_ok (.cons ti150_ok (.cons ti151_ok (.cons ti154_ok (.cons ti156_ok (.cons ti157_ok (.cons ti160_ok (.cons ti162_ok (.cons ti170_ok (.cons ti171_ok (.cons ti181_ok (.nil)))))))))))))))))))))))))))))))))))))))))))))))))))

theorem eqB_all : tabL.all (fun p => match p.2 with | some ti => (!Try.prog.stoodInHeld p.1 && !Try.prog.eqGuardType Try.prog.depth p.1) && (match ti.desc with | .struct fs => fs.toList.all (fun f => f.name != "_") | _ => true) | none => true) = true := by kernel_rfl
theorem tabEq : TabEq Try.prog tab := .of tabL (fun t ti h => by simp only [Bool.and_eq_true, Bool.not_eq_true'] at h; exact h) eqB_all

theorem mixed : Try.prog.follows .mixedOrders = true := by kernel_rfl

end Go.Proofs.Ytnkgdapdccpjmaa

/- The data of the cellar, as the program has it. -/
namespace Go.Proofs.Ytnkgdapdccpjmaa
open Go Go.RowKit Go.Sx

structure Rng where
  lo : Int
  hi : Int
deriving DecidableEq, Inhabited
structure Mk where
  dip : Int
  content : Int
deriving DecidableEq, Inhabited
structure Csk where
  marks : List Mk
  start : Rng
  leak : Rng
deriving DecidableEq, Inhabited
structure Mov where
  src : Int
  dst : Int
  q : Rng
deriving DecidableEq, Inhabited
structure Gg where
  cask : Int
  after : Int
  dip : Rng
  dry : Bool
deriving DecidableEq, Inhabited
structure Clr where
  casks : List Csk
  moves : List Mov
  gauges : List Gg
deriving DecidableEq, Inhabited
structure Tru where
  start : List Int
  leak : List Int
  quantity : List Int
deriving DecidableEq, Inhabited

def i64 (n : Int) : FV := .int .i64 n
def ints (l : List Int) : FV := encL 1 (fun n _ => i64 n) 0 l
def rngF (r : Rng) : Nat → FV
  | 0 => i64 r.lo
  | _ => i64 r.hi
def rngs (l : List Rng) : FV := encL 2 rngF default l
def mkF (m : Mk) : Nat → FV
  | 0 => i64 m.dip
  | _ => i64 m.content
def mks (l : List Mk) : FV := encL 2 mkF default l
def cskF (k : Csk) : Nat → FV
  | 0 => mks k.marks
  | 1 => i64 k.start.lo
  | 2 => i64 k.start.hi
  | 3 => i64 k.leak.lo
  | _ => i64 k.leak.hi
def csks (l : List Csk) : FV := encL 5 cskF default l
def movF (m : Mov) : Nat → FV
  | 0 => i64 m.src
  | 1 => i64 m.dst
  | 2 => i64 m.q.lo
  | _ => i64 m.q.hi
def movs (l : List Mov) : FV := encL 4 movF default l
def ggF (g : Gg) : Nat → FV
  | 0 => i64 g.cask
  | 1 => i64 g.after
  | 2 => i64 g.dip.lo
  | 3 => i64 g.dip.hi
  | _ => .bool g.dry
def ggs (l : List Gg) : FV := encL 5 ggF default l

abbrev aInts (l : List Int) : AV := .s (.c (.f (ints l)))
abbrev aRngs (l : List Rng) : AV := .s (.c (.f (rngs l)))
abbrev aRng (r : Rng) : AV := .s (.agg [.f (i64 r.lo), .f (i64 r.hi)])
abbrev aMk (m : Mk) : AV := .s (.agg [.f (i64 m.dip), .f (i64 m.content)])
abbrev aCsk (k : Csk) : AV := .s (.agg [.f (mks k.marks), .f (i64 k.start.lo), .f (i64 k.start.hi), .f (i64 k.leak.lo), .f (i64 k.leak.hi)])
abbrev aMov (m : Mov) : AV := .s (.agg [.f (i64 m.src), .f (i64 m.dst), .f (i64 m.q.lo), .f (i64 m.q.hi)])
abbrev aGg (g : Gg) : AV := .s (.agg [.f (i64 g.cask), .f (i64 g.after), .f (i64 g.dip.lo), .f (i64 g.dip.hi), .f (.bool g.dry)])
abbrev aClr (c : Clr) : AV := .s (.agg [.f (csks c.casks), .f (movs c.moves), .f (ggs c.gauges)])
abbrev aTru (t : Tru) : AV := .s (.agg [.f (ints t.start), .f (ints t.leak), .f (ints t.quantity)])

/-! ### What the small functions compute -/

def within (a b c : Int) : Bool := decide (b ≤ a) && decide (a ≤ c)
def Rng.has (r : Rng) (n : Int) : Bool := within n r.lo r.hi
def Rng.of (r : Rng) (low high : Int) : Bool := decide (low ≤ r.lo) && decide (r.lo ≤ r.hi) && decide (r.hi ≤ high)
def Rng.meet (r o : Rng) : Rng := ⟨max r.lo o.lo, min r.hi o.hi⟩
def Rng.empty (r : Rng) : Bool := decide (r.hi < r.lo)
def span (r : Rng) (low high : Int) : Bool := within r.lo low r.hi && decide (r.hi ≤ high)
def Csk.top (k : Csk) : Mk := k.marks.getD (k.marks.length - 1) default

def index (l : List Int) (v : Int) (i : Nat) : Int := if i < l.length then (if v = l.getD i 0 then i else index l v (i + 1)) else -1
termination_by l.length - i
def intsEq (a b : List Int) (i : Nat) : Bool := if i < a.length then (if a.getD i 0 = b.getD i 0 then intsEq a b (i + 1) else false) else true
termination_by a.length - i
def sameInts (a b : List Int) : Bool := if a.length = b.length then intsEq a b 0 else false
def minFrom (l : List Int) (m : Int) (i : Nat) : Int := if i < l.length then minFrom l (min m (l.getD i 0)) (i + 1) else m
termination_by l.length - i

/-! ### Lengths -/

theorem csk_len {k : Csk} (w : World) (e : Env) (Z L : Nat → Prop) (v : Value) (h : RepA w e Z L v (aCsk k)) : k.marks.length ≤ 9223372036854775807 := by
  obtain ⟨u, hu⟩ := h.cell (i := 0) rfl
  exact hu.len

end Go.Proofs.Ytnkgdapdccpjmaa

/- The small functions of the cellar. -/
namespace Go.Proofs.Ytnkgdapdccpjmaa
open Go Go.RowKit Go.Sx

theorem index_c (l : List Int) (v : Int) : CallC Try.prog 95 0 (lkF [] fun _ => none) [aInts l, aInt .i64 v] 0 (lkF [] fun _ => none) (aInt .i64 (index l v 0)) := by
  refine callC_intro tabOk mixed Try.func95 rfl rfl rfl rfl ?_
  intro w0 e0 Z0 X hX n
  refine vc_len 0 rfl fun hlen => ?_
  refine vc_seq ?_
  refine vc_region ?_
  refine oq1 ?_
  refine run_nil ?_
  refine vc_seq ?_
  refine vc_seq ?_
  refine vc_region ?_
  refine oq1 ?_
  refine oq1 ?_
  refine oq1 ?_
  refine run_nil ?_
  refine vc_block ?_
  refine vc_loopO (κ := Nat) (fun i => i ≤ l.length ∧ index l v i = index l v 0) (fun i => [(8, aInt .i64 (i : Int))] ++ deadL [4, 5, 9, 10, 11, 12, 13, 14, 15, 16, 17, 18]) (fun i => l.length - i) 0 ⟨Nat.zero_le _, rfl⟩ ?_ ?_
  ·
    exact ent_over .base (.app (.cons (.refl _) (.nil)) _)
  rintro i ⟨hi, hx⟩
  refine vc_seq ?_
  refine vc_region ?_
  refine oq6 ?_
  refine run_nil ?_
  refine vc_seq ?_
  refine vc_condP rfl (fun h1 => ?_) (fun h1 => ?_)
  ·
    try simp only [Int.toNat_natCast] at h1
    refine vc_skip ?_
    refine vc_seq ?_
    refine vc_block ?_
    refine vc_seq ?_
    refine vc_region ?_
    refine oq1 ?_
    refine oq1 ?_
    refine run_nil ?_
    refine vc_seq ?_
    refine vc_region ?_
    refine oq1 ?_
    refine oq1 ?_
    refine oq1 ?_
    refine oq3 ?_
    refine oq2 ?_
    refine oq6 ?_
    refine run_nil ?_
    refine vc_condP rfl (fun h2 => ?_) (fun h2 => ?_)
    ·
      try simp only [Int.toNat_natCast] at h2
      refine vc_seq ?_
      refine vc_region ?_
      refine oq1 ?_
      refine oq1 ?_
      refine run_nil ?_
      refine vc_ret ?_
      refine ret_pure rfl trivial rfl (AVle.of_eq ?_)
      refine aInt_eq ?_
      rw [← hx, index]
      first
        | (rw [if_pos (by omega), if_pos h2])
        | (rw [if_neg (by omega)])
    ·
      try simp only [Int.toNat_natCast] at h2
      refine vc_skip ?_
      refine vc_region ?_
      refine oq4 ?_
      refine oq1 ?_
      refine run_nil ?_
      refine ⟨i + 1, ⟨by omega, ?_⟩, by omega, ent_over (by repeat (first | exact .base | refine .step rfl ?_)) (.app (.cons (.refl _) (.nil)) _)⟩
      rw [← hx, index.eq_def l v i, if_pos (by omega), if_neg h2]
  ·
    try simp only [Int.toNat_natCast] at h1
    refine vc_exit ?_
    refine vc_seq ?_
    refine vc_region ?_
    refine oq1 ?_
    refine run_nil ?_
    refine vc_ret ?_
    refine ret_pure rfl trivial rfl (AVle.of_eq ?_)
    refine aInt_eq ?_
    rw [← hx, index]
    first
      | (rw [if_pos (by omega), if_pos h2])
      | (rw [if_neg (by omega)])

theorem contains_c (l : List Int) (v : Int) : CallC Try.prog 59 0 (lkF [] fun _ => none) [aInts l, aInt .i64 v] 0 (lkF [] fun _ => none) (aBool (decide (0 ≤ index l v 0))) := by
  refine callC_intro tabOk mixed Try.func59 rfl rfl rfl rfl ?_
  intro w0 e0 Z0 X hX n
  refine vc_seq ?_
  refine vc_region ?_
  refine oq1 ?_
  refine run_nil ?_
  refine vc_seq ?_
  refine vc_region ?_
  refine oq1 ?_
  refine oq1 ?_
  refine run_callP (index_c _ _) rfl rfl rfl trivial rfl rfl rfl rfl ?_
  refine oq6 ?_
  refine oq1 ?_
  refine run_nil ?_
  refine vc_ret ?_
  refine ret_pure rfl trivial rfl (AVle.of_eq ?_)
  rfl

theorem within_c (a b c : Int) : CallC Try.prog 69 0 (lkF [] fun _ => none) [aInt .i64 a, aInt .i64 b, aInt .i64 c] 0 (lkF [] fun _ => none) (aBool (within a b c)) := by
  refine callC_intro tabOk mixed Try.func69 rfl rfl rfl rfl ?_
  intro w0 e0 Z0 X hX n
  refine vc_seq ?_
  refine vc_region ?_
  refine oq1 ?_
  refine run_nil ?_
  refine vc_seq ?_
  refine vc_region ?_
  refine oq1 ?_
  refine oq1 ?_
  refine oq6 ?_
  refine oq1 ?_
  refine run_splitP 10 rfl (fun h1 => ?_) (fun h1 => ?_)
  ·
    try simp only [Int.toNat_natCast] at h1
    refine oq1 ?_
    refine oq1 ?_
    refine oq6 ?_
    refine oq1 ?_
    refine oq1 ?_
    refine run_nil ?_
    refine vc_ret ?_
    refine ret_pure rfl trivial rfl (AVle.of_eq ?_)
    refine aBool_eq ?_
    simp [within, h1]
  ·
    try simp only [Int.toNat_natCast] at h1
    refine osk ?_
    refine osk ?_
    refine osk ?_
    refine oq1 ?_
    refine oq1 ?_
    refine run_nil ?_
    refine vc_ret ?_
    refine ret_pure rfl trivial rfl (AVle.of_eq ?_)
    refine aBool_eq ?_
    simp [within, h1]

theorem In_c (a b c : Int) : CallC Try.prog 63 0 (lkF [] fun _ => none) [aInt .i64 a, aInt .i64 b, aInt .i64 c] 0 (lkF [] fun _ => none) (aBool (within a b c)) := by
  refine callC_intro tabOk mixed Try.func63 rfl rfl rfl rfl ?_
  intro w0 e0 Z0 X hX n
  refine vc_seq ?_
  refine vc_region ?_
  refine oq1 ?_
  refine run_nil ?_
  refine vc_seq ?_
  refine vc_region ?_
  refine oq1 ?_
  refine oq1 ?_
  refine oq6 ?_
  refine oq1 ?_
  refine run_splitP 10 rfl (fun h1 => ?_) (fun h1 => ?_)
  ·
    try simp only [Int.toNat_natCast] at h1
    refine oq1 ?_
    refine oq1 ?_
    refine oq6 ?_
    refine oq1 ?_
    refine oq1 ?_
    refine run_nil ?_
    refine vc_ret ?_
    refine ret_pure rfl trivial rfl (AVle.of_eq ?_)
    refine aBool_eq ?_
    simp [within, h1]
  ·
    try simp only [Int.toNat_natCast] at h1
    refine osk ?_
    refine osk ?_
    refine osk ?_
    refine oq1 ?_
    refine oq1 ?_
    refine run_nil ?_
    refine vc_ret ?_
    refine ret_pure rfl trivial rfl (AVle.of_eq ?_)
    refine aBool_eq ?_
    simp [within, h1]

theorem ints_c (a b : List Int) : CallC Try.prog 32 0 (lkF [] fun _ => none) [aInts a, aInts b] 0 (lkF [] fun _ => none) (aBool (sameInts a b)) := by
  refine callC_intro tabOk mixed Try.func32 rfl rfl rfl rfl ?_
  intro w0 e0 Z0 X hX n
  refine vc_len 0 rfl fun hlen => ?_
  refine vc_seq ?_
  refine vc_region ?_
  refine oq1 ?_
  refine run_nil ?_
  refine vc_seq ?_
  refine vc_seq ?_
  refine vc_region ?_
  refine oq1 ?_
  refine oq1 ?_
  refine oq1 ?_
  refine oq1 ?_
  refine oq6 ?_
  refine run_nil ?_
  refine vc_condN rfl (fun h1 => ?_) (fun h1 => ?_)
  ·
    try simp only [Int.toNat_natCast] at h1
    refine vc_seq ?_
    refine vc_region ?_
    refine oq1 ?_
    refine run_nil ?_
    refine vc_ret ?_
    refine ret_pure rfl trivial rfl (AVle.of_eq ?_)
    refine aBool_eq ?_
    unfold sameInts
    first
      | (rw [if_neg (by omega)])
      | (rw [if_pos (by omega), ← hx, intsEq, if_pos (by omega), if_neg h3])
      | (rw [if_pos (by omega), ← hx, intsEq, if_neg (by omega)])
  ·
    try simp only [Int.toNat_natCast] at h1
    refine vc_skip ?_
    refine vc_seq ?_
    refine vc_seq ?_
    refine vc_region ?_
    refine oq1 ?_
    refine run_nil ?_
    refine vc_block ?_
    refine vc_loopO (κ := Nat) (fun i => i ≤ a.length ∧ intsEq a b i = intsEq a b 0) (fun i => [(5, aInt .i64 (i : Int))] ++ deadL [4, 11, 12, 13, 14, 15, 16, 17, 18, 19, 20, 21, 22, 23, 24, 25]) (fun i => a.length - i) 0 ⟨Nat.zero_le _, rfl⟩ ?_ ?_
    ·
      exact ent_over .base (.app (.cons (.refl _) (.nil)) _)
    rintro i ⟨hi, hx⟩
    refine vc_seq ?_
    refine vc_seq ?_
    refine vc_region ?_
    refine oq1 ?_
    refine oq1 ?_
    refine oq1 ?_
    refine oq6 ?_
    refine run_nil ?_
    refine vc_condP rfl (fun h2 => ?_) (fun h2 => ?_)
    ·
      try simp only [Int.toNat_natCast] at h2
      refine vc_skip ?_
      refine vc_seq ?_
      refine vc_block ?_
      refine vc_seq ?_
      refine vc_regionD rfl ?_
      refine oq1 ?_
      refine oq1 ?_
      refine oq3 ?_
      refine oq2 ?_
      refine oq1 ?_
      refine oq1 ?_
      refine oq3 ?_
      refine oq2 ?_
      refine oq6 ?_
      refine run_nil ⟨rfl, ?_⟩
      refine vc_condN rfl (fun h3 => ?_) (fun h3 => ?_)
      ·
        try simp only [Int.toNat_natCast] at h3
        refine vc_seq ?_
        refine vc_region ?_
        refine oq1 ?_
        refine run_nil ?_
        refine vc_ret ?_
        refine ret_pure rfl trivial rfl (AVle.of_eq ?_)
        refine aBool_eq ?_
        unfold sameInts
        first
          | (rw [if_neg (by omega)])
          | (rw [if_pos (by omega), ← hx, intsEq, if_pos (by omega), if_neg h3])
          | (rw [if_pos (by omega), ← hx, intsEq, if_neg (by omega)])
      ·
        try simp only [Int.toNat_natCast] at h3
        refine vc_skip ?_
        refine vc_region ?_
        refine oq1 ?_
        refine oq4 ?_
        refine oq1 ?_
        refine run_nil ?_
        refine ⟨i + 1, ⟨by omega, ?_⟩, by omega, ent_over (by repeat (first | exact .base | refine .step rfl ?_)) (.app (.cons (.refl _) (.nil)) _)⟩
        rw [← hx, intsEq.eq_def a b i, if_pos (by omega), if_pos h3]
    ·
      try simp only [Int.toNat_natCast] at h2
      refine vc_exit ?_
      refine vc_seq ?_
      refine vc_region ?_
      refine oq1 ?_
      refine run_nil ?_
      refine vc_ret ?_
      refine ret_pure rfl trivial rfl (AVle.of_eq ?_)
      refine aBool_eq ?_
      unfold sameInts
      first
        | (rw [if_neg (by omega)])
        | (rw [if_pos (by omega), ← hx, intsEq, if_pos (by omega), if_neg h3])
        | (rw [if_pos (by omega), ← hx, intsEq, if_neg (by omega)])

theorem has_c (r : Rng) (n : Int) : CallC Try.prog 75 0 (lkF [] fun _ => none) [aRng r, aInt .i64 n] 0 (lkF [] fun _ => none) (aBool (r.has n)) := by
  refine callC_intro tabOk mixed Try.func75 rfl rfl rfl rfl ?_
  intro w0 e0 Z0 X hX n
  refine vc_seq ?_
  refine vc_region ?_
  refine run_box rfl trivial rfl rfl rfl rfl rfl rfl (by intro _ _ h; cases h) ?_
  refine oq1 ?_
  refine run_nil ?_
  refine vc_seq ?_
  refine vc_region ?_
  refine oq1 ?_
  refine oq5 ?_
  refine oq2 ?_
  refine oq5 ?_
  refine oq2 ?_
  refine run_callP (within_c _ _ _) rfl rfl rfl trivial rfl rfl rfl rfl ?_
  refine oq1 ?_
  refine run_nil ?_
  refine vc_ret ?_
  refine ret_pure rfl trivial rfl (AVle.of_eq ?_)
  rfl

theorem of_c (r : Rng) (a b : Int) : CallC Try.prog 105 0 (lkF [] fun _ => none) [aRng r, aInt .i64 a, aInt .i64 b] 0 (lkF [] fun _ => none) (aBool (r.of a b)) := by
  refine callC_intro tabOk mixed Try.func105 rfl rfl rfl rfl ?_
  intro w0 e0 Z0 X hX n
  refine vc_seq ?_
  refine vc_region ?_
  refine run_box rfl trivial rfl rfl rfl rfl rfl rfl (by intro _ _ h; cases h) ?_
  refine oq1 ?_
  refine run_nil ?_
  refine vc_seq ?_
  refine vc_region ?_
  refine oq1 ?_
  refine oq5 ?_
  refine oq2 ?_
  refine oq6 ?_
  refine oq1 ?_
  refine run_splitP 11 rfl (fun h1 => ?_) (fun h1 => ?_)
  ·
    try simp only [Int.toNat_natCast] at h1
    refine oq5 ?_
    refine oq2 ?_
    refine oq5 ?_
    refine oq2 ?_
    refine oq6 ?_
    refine oq1 ?_
    refine oq1 ?_
    refine run_splitP 18 rfl (fun h2 => ?_) (fun h2 => ?_)
    ·
      try simp only [Int.toNat_natCast] at h2
      refine oq5 ?_
      refine oq2 ?_
      refine oq1 ?_
      refine oq6 ?_
      refine oq1 ?_
      refine oq1 ?_
      refine run_nil ?_
      refine vc_ret ?_
      refine ret_pure rfl trivial rfl (AVle.of_eq ?_)
      refine aBool_eq ?_
      first
        | (simp_all [Rng.of]; done)
        | (simp_all [Rng.of]; intros; omega)
    ·
      try simp only [Int.toNat_natCast] at h2
      refine osk ?_
      refine osk ?_
      refine osk ?_
      refine osk ?_
      refine oq1 ?_
      refine oq1 ?_
      refine run_nil ?_
      refine vc_ret ?_
      refine ret_pure rfl trivial rfl (AVle.of_eq ?_)
      refine aBool_eq ?_
      first
        | (simp_all [Rng.of]; done)
        | (simp_all [Rng.of]; intros; omega)
  ·
    try simp only [Int.toNat_natCast] at h1
    refine osk ?_
    refine osk ?_
    refine osk ?_
    refine osk ?_
    refine osk ?_
    refine oq1 ?_
    refine oq1 ?_
    refine osk ?_
    refine osk ?_
    refine osk ?_
    refine osk ?_
    refine oq1 ?_
    refine oq1 ?_
    refine run_nil ?_
    refine vc_ret ?_
    refine ret_pure rfl trivial rfl (AVle.of_eq ?_)
    refine aBool_eq ?_
    first
      | (simp_all [Rng.of]; done)
      | (simp_all [Rng.of]; intros; omega)

theorem empty_c (r : Rng) : CallC Try.prog 104 0 (lkF [] fun _ => none) [aRng r] 0 (lkF [] fun _ => none) (aBool r.empty) := by
  refine callC_intro tabOk mixed Try.func104 rfl rfl rfl rfl ?_
  intro w0 e0 Z0 X hX n
  refine vc_seq ?_
  refine vc_region ?_
  refine run_box rfl trivial rfl rfl rfl rfl rfl rfl (by intro _ _ h; cases h) ?_
  refine oq1 ?_
  refine run_nil ?_
  refine vc_seq ?_
  refine vc_region ?_
  refine oq5 ?_
  refine oq2 ?_
  refine oq5 ?_
  refine oq2 ?_
  refine oq6 ?_
  refine oq1 ?_
  refine run_nil ?_
  refine vc_ret ?_
  refine ret_pure rfl trivial rfl (AVle.of_eq ?_)
  rfl

theorem Span_c (r : Rng) (a b : Int) : CallC Try.prog 64 0 (lkF [] fun _ => none) [aRng r, aInt .i64 a, aInt .i64 b] 0 (lkF [] fun _ => none) (aBool (span r a b)) := by
  refine callC_intro tabOk mixed Try.func64 rfl rfl rfl rfl ?_
  intro w0 e0 Z0 X hX n
  refine vc_seq ?_
  refine vc_region ?_
  refine run_box rfl trivial rfl rfl rfl rfl rfl rfl (by intro _ _ h; cases h) ?_
  refine oq1 ?_
  refine run_nil ?_
  refine vc_seq ?_
  refine vc_region ?_
  refine oq5 ?_
  refine oq2 ?_
  refine oq1 ?_
  refine oq5 ?_
  refine oq2 ?_
  refine run_callP (In_c _ _ _) rfl rfl rfl trivial rfl rfl rfl rfl ?_
  refine oq1 ?_
  refine run_split 13 rfl (fun h1 => ?_) (fun h1 => ?_)
  ·
    try simp only [Int.toNat_natCast] at h1
    refine oq5 ?_
    refine oq2 ?_
    refine oq1 ?_
    refine oq6 ?_
    refine oq1 ?_
    refine oq1 ?_
    refine run_nil ?_
    refine vc_ret ?_
    refine ret_pure rfl trivial rfl (AVle.of_eq ?_)
    refine aBool_eq ?_
    first
      | (simp_all [span]; done)
      | (simp_all [span]; intros; omega)
  ·
    try simp only [Int.toNat_natCast] at h1
    refine osk ?_
    refine osk ?_
    refine osk ?_
    refine osk ?_
    refine oq1 ?_
    refine oq1 ?_
    refine run_nil ?_
    refine vc_ret ?_
    refine ret_pure rfl trivial rfl (AVle.of_eq ?_)
    refine aBool_eq ?_
    first
      | (simp_all [span]; done)
      | (simp_all [span]; intros; omega)

theorem Depth_c (k : Csk) (h0 : 0 < k.marks.length) : CallC Try.prog 65 0 (lkF [] fun _ => none) [aCsk k] 0 (lkF [] fun _ => none) (aInt .i64 k.top.dip) := by
  refine callC_intro tabOk mixed Try.func65 rfl rfl rfl rfl ?_
  intro w0 e0 Z0 X hX n
  refine vc_fact 0 csk_len fun hlen => ?_
  refine vc_seq ?_
  refine vc_region ?_
  refine run_box rfl trivial rfl rfl rfl rfl rfl rfl (by intro _ _ h; cases h) ?_
  refine oq1 ?_
  refine run_nil ?_
  refine vc_seq ?_
  refine vc_region ?_
  refine oq5 ?_
  refine oq2 ?_
  refine oq5 ?_
  refine oq2 ?_
  refine oq1 ?_
  refine oq4 ?_
  refine oq3 ?_
  refine oq5 ?_
  refine oq2 ?_
  refine oq1 ?_
  refine run_nil ?_
  refine vc_ret ?_
  refine ret_pure rfl trivial rfl (AVle.of_eq ?_)
  refine aInt_eq ?_
  simp only [Csk.top, show ((k.marks.length : Int) - 1).toNat = k.marks.length - 1 by omega]

theorem Holds_c (k : Csk) (h0 : 0 < k.marks.length) : CallC Try.prog 18 0 (lkF [] fun _ => none) [aCsk k] 0 (lkF [] fun _ => none) (aInt .i64 k.top.content) := by
  refine callC_intro tabOk mixed Try.func18 rfl rfl rfl rfl ?_
  intro w0 e0 Z0 X hX n
  refine vc_fact 0 csk_len fun hlen => ?_
  refine vc_seq ?_
  refine vc_region ?_
  refine run_box rfl trivial rfl rfl rfl rfl rfl rfl (by intro _ _ h; cases h) ?_
  refine oq1 ?_
  refine run_nil ?_
  refine vc_seq ?_
  refine vc_region ?_
  refine oq5 ?_
  refine oq2 ?_
  refine oq5 ?_
  refine oq2 ?_
  refine oq1 ?_
  refine oq4 ?_
  refine oq3 ?_
  refine oq5 ?_
  refine oq2 ?_
  refine oq1 ?_
  refine run_nil ?_
  refine vc_ret ?_
  refine ret_pure rfl trivial rfl (AVle.of_eq ?_)
  refine aInt_eq ?_
  simp only [Csk.top, show ((k.marks.length : Int) - 1).toNat = k.marks.length - 1 by omega]

theorem top_c (k : Csk) (h0 : 0 < k.marks.length) : CallC Try.prog 70 0 (lkF [] fun _ => none) [aCsk k] 0 (lkF [] fun _ => none) (aMk k.top) := by
  refine callC_intro tabOk mixed Try.func70 rfl rfl rfl rfl ?_
  intro w0 e0 Z0 X hX n
  refine vc_fact 0 csk_len fun hlen => ?_
  refine vc_seq ?_
  refine vc_region ?_
  refine run_box rfl trivial rfl rfl rfl rfl rfl rfl (by intro _ _ h; cases h) ?_
  refine run_alloc rfl trivial rfl rfl rfl rfl (by intro _ _ h; cases h) ?_
  refine run_nil ?_
  refine vc_seq ?_
  refine vc_region ?_
  refine oq5 ?_
  refine oq2 ?_
  refine oq5 ?_
  refine oq2 ?_
  refine oq1 ?_
  refine oq4 ?_
  refine oq3 ?_
  refine oq2 ?_
  refine Sx.run_store rfl trivial rfl rfl rfl rfl rfl rfl rfl ?_
  refine run_nil ?_
  refine vc_ret ?_
  refine ret_pure rfl (Nat.le_of_ble_eq_true rfl) rfl (AVle.of_eq ?_)
  simp only [Csk.top, show ((k.marks.length : Int) - 1).toNat = k.marks.length - 1 by omega]
  rfl

theorem Min_c (l : List Int) (h0 : 0 < l.length) : CallC Try.prog 111 0 (lkF [] fun _ => none) [aInts l] 0 (lkF [] fun _ => none) (aInt .i64 (minFrom l (l.getD 0 0) 1)) := by
  refine callC_intro tabOk mixed Try.func111 rfl rfl rfl rfl ?_
  intro w0 e0 Z0 X hX n
  refine vc_len 0 rfl fun hlen => ?_
  refine vc_seq ?_
  refine vc_region ?_
  refine oq1 ?_
  refine run_nil ?_
  refine vc_seq ?_
  refine vc_seq ?_
  refine vc_region ?_
  refine oq1 ?_
  refine oq1 ?_
  refine oq6 ?_
  refine run_nil ?_
  refine vc_condP rfl (fun h1 => ?_) (fun h1 => ?_)
  ·
    try simp only [Int.toNat_natCast] at h1
    omega
  ·
    try simp only [Int.toNat_natCast] at h1
    refine vc_skip ?_
    refine vc_seq ?_
    refine vc_region ?_
    refine oq1 ?_
    refine oq3 ?_
    refine oq2 ?_
    refine oq1 ?_
    refine run_nil ?_
    refine vc_seq ?_
    refine vc_seq ?_
    refine vc_region ?_
    refine oq1 ?_
    refine run_nil ?_
    refine vc_block ?_
    refine vc_loopO (κ := Nat × Int) (fun i => 1 ≤ i.1 ∧ i.1 ≤ l.length ∧ minFrom l i.2 i.1 = minFrom l (l.getD 0 0) 1) (fun i => [(3, aInt .i64 i.2), (4, aInt .i64 (i.1 : Int))] ++ deadL [12, 13, 14, 15, 16, 17, 18, 19, 20, 21, 22, 23]) (fun i => l.length - i.1) (1, l.getD 0 0) ⟨Nat.le_refl _, h0, rfl⟩ ?_ ?_
    ·
      exact ent_over .base (.app (.cons (.refl _) (.cons (.refl _) (.nil))) _)
    rintro ⟨i, m⟩ ⟨hi1, hi, hx⟩
    dsimp only at hi1 hi hx ⊢
    refine vc_seq ?_
    refine vc_seq ?_
    refine vc_region ?_
    refine oq1 ?_
    refine oq1 ?_
    refine oq1 ?_
    refine oq6 ?_
    refine run_nil ?_
    refine vc_condP rfl (fun h2 => ?_) (fun h2 => ?_)
    ·
      try simp only [Int.toNat_natCast] at h2
      refine vc_skip ?_
      refine vc_seq ?_
      refine vc_block ?_
      refine vc_region ?_
      refine oq1 ?_
      refine oq1 ?_
      refine oq1 ?_
      refine oq3 ?_
      refine oq2 ?_
      refine run_q rfl trivial rfl rfl rfl (by first | exact rfl | exact ⟨rfl, rfl⟩) ?_
      refine oq1 ?_
      refine run_nil ?_
      refine vc_region ?_
      refine oq1 ?_
      refine oq4 ?_
      refine oq1 ?_
      refine run_nil ?_
      refine ⟨(i + 1, min m (l.getD i 0)), ⟨by omega, by omega, ?_⟩, by dsimp only; omega, ent_over (by repeat (first | exact .base | refine .step rfl ?_)) (.app (.cons (.refl _) (.cons (.refl _) (.nil))) _)⟩
      rw [← hx, minFrom.eq_def l m i, if_pos (by omega)]
    ·
      try simp only [Int.toNat_natCast] at h2
      refine vc_exit ?_
      refine vc_seq ?_
      refine vc_region ?_
      refine oq1 ?_
      refine oq1 ?_
      refine run_nil ?_
      refine vc_ret ?_
      refine ret_pure rfl trivial rfl (AVle.of_eq ?_)
      refine aInt_eq ?_
      rw [← hx, minFrom, if_neg (by omega)]

end Go.Proofs.Ytnkgdapdccpjmaa

/- Marks and contents: what they are, and within which bounds. -/
namespace Go.Proofs.Ytnkgdapdccpjmaa
open Go Go.RowKit Go.Sx

structure GoodMarks (l : List Mk) : Prop where
  len : 2 ≤ l.length
  zero : l.getD 0 default = ⟨0, 0⟩
  rise : ∀ i, i + 1 < l.length → (l.getD i default).dip + 1 ≤ (l.getD (i + 1) default).dip ∧ (l.getD i default).content + 1 ≤ (l.getD (i + 1) default).content ∧ (l.getD (i + 1) default).dip ≤ 100 ∧ (l.getD (i + 1) default).content ≤ 1000

theorem GoodMarks.bounds {l : List Mk} (h : GoodMarks l) : ∀ i, i < l.length → 0 ≤ (l.getD i default).dip ∧ (l.getD i default).dip ≤ 100 ∧ 0 ≤ (l.getD i default).content ∧ (l.getD i default).content ≤ 1000
  | 0, _ => by rw [h.zero]; decide
  | i + 1, hi => by
    have h1 := h.bounds i (by omega)
    have h2 := h.rise i hi
    omega
theorem GoodMarks.mono {l : List Mk} (h : GoodMarks l) {i j : Nat} (hij : i ≤ j) (hj : j < l.length) : (l.getD i default).dip ≤ (l.getD j default).dip ∧ (l.getD i default).content ≤ (l.getD j default).content := by
  induction j with
  | zero => obtain rfl : i = 0 := by omega
            exact ⟨Int.le_refl _, Int.le_refl _⟩
  | succ j ih =>
    rcases Nat.lt_or_ge i (j + 1) with hlt | hge
    · have h1 := ih (by omega) (by omega)
      have h2 := h.rise j hj
      omega
    · obtain rfl : i = j + 1 := by omega
      exact ⟨Int.le_refl _, Int.le_refl _⟩

def seg (l : List Mk) (dip : Int) (i : Nat) : Nat := if i < l.length ∧ (l.getD i default).dip < dip then seg l dip (i + 1) else i
termination_by l.length - i
def lin (a b : Mk) (dip : Int) : Int := a.content + (b.content - a.content) * (dip - a.dip) / (b.dip - a.dip)
def Csk.content (k : Csk) (dip : Int) : Int := lin (k.marks.getD (seg k.marks dip 1 - 1) default) (k.marks.getD (seg k.marks dip 1) default) dip

theorem mul_box {x y a b : Int} (h1 : 0 ≤ x) (h2 : x ≤ a) (h3 : 0 ≤ y) (h4 : y ≤ b) : 0 ≤ x * y ∧ x * y ≤ a * b :=
  ⟨Int.mul_nonneg h1 h3, Int.mul_le_mul h2 h4 h3 (Int.le_trans h1 h2)⟩

theorem lin_facts {a b : Mk} {dip : Int} (h1 : 0 ≤ a.dip) (h2 : a.dip + 1 ≤ b.dip) (h3 : b.dip ≤ 100) (h4 : 0 ≤ a.content) (h5 : a.content ≤ b.content) (h6 : b.content ≤ 1000) (h7 : a.dip ≤ dip) (h8 : dip ≤ b.dip) :
    0 ≤ (b.content - a.content) * (dip - a.dip) ∧ (b.content - a.content) * (dip - a.dip) ≤ 100000 ∧ 0 ≤ (b.content - a.content) * (dip - a.dip) / (b.dip - a.dip) ∧ (b.content - a.content) * (dip - a.dip) / (b.dip - a.dip) ≤ b.content - a.content := by
  have h9 := mul_box (x := b.content - a.content) (y := dip - a.dip) (a := 1000) (b := 100) (by omega) (by omega) (by omega) (by omega)
  have h10 : (b.content - a.content) * (dip - a.dip) ≤ (b.content - a.content) * (b.dip - a.dip) := Int.mul_le_mul_of_nonneg_left (by omega) (by omega)
  refine ⟨h9.1, by omega, Int.ediv_nonneg h9.1 (by omega), ?_⟩
  have := Int.ediv_le_ediv (c := b.dip - a.dip) (by omega) h10
  rwa [Int.mul_ediv_cancel _ (by omega)] at this

theorem seg_spec {l : List Mk} (h : GoodMarks l) {dip : Int} (h1 : dip ≤ (l.getD (l.length - 1) default).dip) : ∀ (n i : Nat), n = l.length - i → 1 ≤ i → i < l.length → (i = 1 ∨ (l.getD (i - 1) default).dip < dip) →
    1 ≤ seg l dip i ∧ seg l dip i < l.length ∧ (seg l dip i = 1 ∨ (l.getD (seg l dip i - 1) default).dip < dip) ∧ dip ≤ (l.getD (seg l dip i) default).dip := by
  intro n
  induction n with
  | zero => intro i hn _ hi; omega
  | succ n ih =>
    intro i hn hi1 hi h2
    rw [seg]
    by_cases hc : i < l.length ∧ (l.getD i default).dip < dip
    · rw [if_pos hc]
      have hne : i ≠ l.length - 1 := fun he => by rw [← he] at h1; omega
      exact ih (i + 1) (by omega) (by omega) (by omega) (.inr (by simpa using hc.2))
    · rw [if_neg hc]
      exact ⟨hi1, hi, h2, by simp only [not_and] at hc; have := hc hi; omega⟩

theorem min2 (a b : Int) : minFrom [a, b] ([a, b].getD 0 0) 1 = min a b := by
  rw [minFrom, if_pos (by simp), minFrom, if_neg (by simp)]; rfl

def Clr.cask (c : Clr) (i : Int) : Csk := c.casks.getD i.toNat default
def Clr.mean (c : Clr) (g : Gg) : Rng :=
  if g.dry then ⟨(c.cask g.cask).content ((c.cask g.cask).top.dip - g.dip.hi), (c.cask g.cask).content ((c.cask g.cask).top.dip - g.dip.lo)⟩ else ⟨(c.cask g.cask).content g.dip.lo, (c.cask g.cask).content g.dip.hi⟩

theorem GoodMarks.top {k : Csk} (h : GoodMarks k.marks) : 0 ≤ k.top.dip ∧ k.top.dip ≤ 100 ∧ 0 ≤ k.top.content ∧ k.top.content ≤ 1000 := h.bounds _ (by have := h.len; omega)
theorem GoodMarks.pos {l : List Mk} (h : GoodMarks l) : 0 < l.length := by have := h.len; omega

theorem clr_len {c : Clr} (w : World) (e : Env) (Z L : Nat → Prop) (v : Value) (h : RepA w e Z L v (aClr c)) : c.casks.length ≤ 9223372036854775807 ∧ c.moves.length ≤ 9223372036854775807 ∧ c.gauges.length ≤ 9223372036854775807 := by
  obtain ⟨u, hu⟩ := h.cell (i := 0) rfl
  obtain ⟨u1, hu1⟩ := h.cell (i := 1) rfl
  obtain ⟨u2, hu2⟩ := h.cell (i := 2) rfl
  exact ⟨hu.len, hu1.len, hu2.len⟩

theorem getD_mem {α : Type} {l : List α} {d : α} {i : Nat} (h : i < l.length) : l.getD i d ∈ l := by
  rw [show l.getD i d = l[i] by simp [List.getD, List.getElem?_eq_getElem h]]; exact List.getElem_mem _
theorem Clr.cask_mem {c : Clr} {i : Int} (h0 : 0 ≤ i) (h1 : i < c.casks.length) : c.cask i ∈ c.casks := getD_mem (by omega)

end Go.Proofs.Ytnkgdapdccpjmaa

/- Contents. -/
namespace Go.Proofs.Ytnkgdapdccpjmaa
open Go Go.RowKit Go.Sx

theorem minimum_c (l : List Int) (h0 : 0 < l.length) : CallC Try.prog 92 0 (lkF [] fun _ => none) [aInts l] 0 (lkF [] fun _ => none) (aInt .i64 (minFrom l (l.getD 0 0) 1)) := by
  refine callC_intro tabOk mixed Try.func92 rfl rfl rfl rfl ?_
  intro w0 e0 Z0 X hX n
  refine vc_seq ?_
  refine vc_region ?_
  refine oq1 ?_
  refine run_nil ?_
  refine vc_seq ?_
  refine vc_region ?_
  refine oq1 ?_
  refine run_callP (Min_c l h0) rfl rfl rfl trivial rfl rfl rfl rfl ?_
  refine oq1 ?_
  refine run_nil ?_
  refine vc_ret ?_
  refine ret_pure rfl trivial rfl (AVle.of_eq ?_)
  rfl

theorem minimum2_c (a b : Int) : CallC Try.prog 92 0 (lkF [] fun _ => none) [aInts [a, b]] 0 (lkF [] fun _ => none) (aInt .i64 (min a b)) := by
  rw [← min2]; exact minimum_c [a, b] (by simp)

theorem meet_c (r o : Rng) : CallC Try.prog 103 0 (lkF [] fun _ => none) [aRng r, aRng o] 0 (lkF [] fun _ => none) (aRng (r.meet o)) := by
  refine callC_intro tabOk mixed Try.func103 rfl rfl rfl rfl ?_
  intro w0 e0 Z0 X hX n
  refine vc_seq ?_
  refine vc_region ?_
  refine run_box rfl trivial rfl rfl rfl rfl rfl rfl (by intro _ _ h; cases h) ?_
  refine run_box rfl trivial rfl rfl rfl rfl rfl rfl (by intro _ _ h; cases h) ?_
  refine run_alloc rfl trivial rfl rfl rfl rfl (by intro _ _ h; cases h) ?_
  refine run_nil ?_
  refine vc_seq ?_
  refine vc_regionD rfl ?_
  refine oq5 ?_
  refine oq2 ?_
  refine oq5 ?_
  refine oq2 ?_
  refine run_q rfl trivial rfl rfl rfl (by first | exact rfl | exact ⟨rfl, rfl⟩) ?_
  refine oq5 ?_
  refine oq2 ?_
  refine oq5 ?_
  refine oq2 ?_
  refine run_buildSliceW (ints [r.hi, o.hi]) rfl trivial rfl rfl rfl rfl rfl rfl rfl rfl rfl (encL_lit (k := 1) (g := fun n _ => i64 n) (d := 0) [r.hi, o.hi]) ?_
  refine run_callP (minimum2_c r.hi o.hi) rfl rfl rfl trivial rfl rfl rfl rfl ?_
  refine oq1 ?_
  refine Sx.run_store rfl trivial rfl rfl rfl rfl rfl rfl rfl ?_
  refine run_nil ⟨rfl, ?_⟩
  refine vc_ret ?_
  refine ret_pure rfl (Nat.le_of_ble_eq_true rfl) rfl (AVle.of_eq ?_)
  rfl

theorem content_c (k : Csk) (dip : Int) (hg : GoodMarks k.marks) (h0 : 0 ≤ dip) (hd : dip ≤ k.top.dip) : CallC Try.prog 85 0 (lkF [] fun _ => none) [aCsk k, aInt .i64 dip] 0 (lkF [] fun _ => none) (aInt .i64 (k.content dip)) := by
  refine callC_intro tabOk mixed Try.func85 rfl rfl rfl rfl ?_
  intro w0 e0 Z0 X hX n
  refine vc_fact 0 csk_len fun hlen => ?_
  refine vc_seq ?_
  refine vc_region ?_
  refine run_box rfl trivial rfl rfl rfl rfl rfl rfl (by intro _ _ h; cases h) ?_
  refine oq1 ?_
  refine run_nil ?_
  refine vc_seq ?_
  refine vc_region ?_
  refine oq1 ?_
  refine run_nil ?_
  refine vc_seq ?_
  refine vc_block ?_
  refine vc_loopO (κ := Nat) (fun i => 1 ≤ i ∧ i < k.marks.length ∧ (i = 1 ∨ (k.marks.getD (i - 1) default).dip < dip) ∧ seg k.marks dip i = seg k.marks dip 1) (fun i => [(5, aInt .i64 (i : Int))] ++ deadL [8, 9, 10, 11, 12, 13, 14, 15, 16, 17]) (fun i => k.marks.length - i) 1 ⟨Nat.le_refl _, by have := hg.len; omega, .inl rfl, rfl⟩ ?_ ?_
  ·
    exact ent_over .base (.app (.cons (.refl _) (.nil)) _)
  rintro i ⟨hi1, hi, hl, hx⟩
  refine vc_seq ?_
  refine vc_seq ?_
  refine vc_region ?_
  refine oq5 ?_
  refine oq2 ?_
  refine oq1 ?_
  refine oq3 ?_
  refine oq5 ?_
  refine oq2 ?_
  refine oq1 ?_
  refine oq6 ?_
  refine run_nil ?_
  refine vc_condP rfl (fun h1 => ?_) (fun h1 => ?_)
  ·
    try simp only [Int.toNat_natCast] at h1
    refine vc_skip ?_
    refine vc_block ?_
    refine vc_region ?_
    refine oq1 ?_
    refine oq4 ?_
    refine oq1 ?_
    refine run_nil ?_
    have hne : i ≠ k.marks.length - 1 := fun he => by rw [Csk.top, ← he] at hd; omega
    refine ⟨i + 1, ⟨by omega, by omega, .inr (by simpa using h1), ?_⟩, by omega, ent_over (by repeat (first | exact .base | refine .step rfl ?_)) (.app (.cons (.refl _) (.nil)) _)⟩
    rw [← hx, seg.eq_def k.marks dip i, if_pos ⟨hi, h1⟩]
  ·
    try simp only [Int.toNat_natCast] at h1
    refine vc_exit ?_
    refine vc_seq ?_
    refine vc_regionD rfl ?_
    have e1 : ((i : Int) - 1).toNat = i - 1 := by omega
    refine oq5 ?_
    refine oq2 ?_
    refine oq1 ?_
    refine oq4 ?_
    refine oq3 ?_
    refine oq2 ?_
    refine oq5 ?_
    refine oq2 ?_
    refine oq1 ?_
    refine oq3 ?_
    refine oq2 ?_
    refine run_alloc rfl trivial rfl rfl rfl rfl (by intro _ _ h; cases h) ?_
    refine run_alloc rfl trivial rfl rfl rfl rfl (by intro _ _ h; cases h) ?_
    refine Sx.run_store rfl trivial rfl rfl rfl rfl rfl rfl rfl ?_
    refine Sx.run_store rfl trivial rfl rfl rfl rfl rfl rfl rfl ?_
    refine run_nil ⟨rfl, ?_⟩
    refine vc_seq ?_
    refine vc_regionD rfl ?_
    have hs : seg k.marks dip i = i := by rw [seg, if_neg (by simpa using fun _ => h1)]
    have hr := hg.rise (i - 1) (by omega)
    have hb := hg.bounds (i - 1) (by omega)
    rw [show i - 1 + 1 = i by omega] at hr
    have hl2 : (k.marks.getD (i - 1) default).dip ≤ dip := by rcases hl with rfl | hl; (· show (k.marks.getD 0 default).dip ≤ dip; rw [hg.zero]; exact h0); (· omega)
    have hf := lin_facts (a := k.marks.getD (i - 1) default) (b := k.marks.getD i default) (dip := dip) (by omega) (by omega) (by omega) (by omega) (by omega) (by omega) hl2 (by omega)
    rw [← e1] at hr hb hl2 hf
    refine oq5 ?_
    refine oq2 ?_
    refine oq5 ?_
    refine oq2 ?_
    refine oq5 ?_
    refine oq2 ?_
    refine oq4 ?_
    refine oq1 ?_
    refine oq5 ?_
    refine oq2 ?_
    refine oq4 ?_
    refine oq4 ?_
    refine oq5 ?_
    refine oq2 ?_
    refine oq5 ?_
    refine oq2 ?_
    refine oq4 ?_
    refine run_q rfl trivial rfl rfl rfl (quo64 (by (try simp only [Int.toNat_natCast]); omega) (by (try simp only [Int.toNat_natCast]); omega) (by (try simp only [Int.toNat_natCast]); omega)) ?_
    refine oq4 ?_
    refine oq1 ?_
    refine run_nil ⟨rfl, ?_⟩
    refine vc_ret ?_
    refine ret_pure rfl trivial rfl (AVle.of_eq ?_)
    refine aInt_eq ?_
    rw [Csk.content, ← hx, hs, lin, ← e1]; rfl

end Go.Proofs.Ytnkgdapdccpjmaa

/- Contents, in the reference; means. -/
namespace Go.Proofs.Ytnkgdapdccpjmaa
open Go Go.RowKit Go.Sx

theorem Content_c (k : Csk) (dip : Int) (hg : GoodMarks k.marks) (h0 : 0 ≤ dip) (hd : dip ≤ k.top.dip) : CallC Try.prog 79 0 (lkF [] fun _ => none) [aCsk k, aInt .i64 dip] 0 (lkF [] fun _ => none) (aInt .i64 (k.content dip)) := by
  refine callC_intro tabOk mixed Try.func79 rfl rfl rfl rfl ?_
  intro w0 e0 Z0 X hX n
  refine vc_fact 0 csk_len fun hlen => ?_
  refine vc_seq ?_
  refine vc_region ?_
  refine run_box rfl trivial rfl rfl rfl rfl rfl rfl (by intro _ _ h; cases h) ?_
  refine oq1 ?_
  refine run_nil ?_
  refine vc_seq ?_
  refine vc_seq ?_
  refine vc_region ?_
  refine oq1 ?_
  refine run_nil ?_
  refine vc_block ?_
  refine vc_loop (κ := Nat) (fun i => 1 ≤ i ∧ i < k.marks.length ∧ (i = 1 ∨ (k.marks.getD (i - 1) default).dip < dip) ∧ seg k.marks dip i = seg k.marks dip 1) (fun i => ⟨[(1, aInt .i64 dip), (2, .s (.c (.ptr 0 0))), (5, aInt .i64 (i : Int))], [(0, some (.cells 51 [.f (mks k.marks), .f (i64 k.start.lo), .f (i64 k.start.hi), .f (i64 k.leak.lo), .f (i64 k.leak.hi)]))], fun _ => none, 1⟩) (fun i => k.marks.length - i) 1 ⟨Nat.le_refl _, by have := hg.len; omega, .inl rfl, rfl⟩ ?_ ?_
  ·
    exact ent_ren [] (.cons (.refl _) rfl (.cons (.refl _) rfl (.cons (.refl _) rfl (.nil)))) (.cons rfl (.refl _) rfl rfl (.nil)) rfl rfl (fun i hi => ⟨rfl, Nat.lt_of_lt_of_le hi (Nat.le_of_ble_eq_true rfl)⟩)
  rintro i ⟨hi1, hi, hl, hx⟩
  refine vc_seq ?_
  refine vc_seq ?_
  refine vc_region ?_
  refine oq1 ?_
  refine oq5 ?_
  refine oq2 ?_
  refine oq1 ?_
  refine oq6 ?_
  refine run_nil ?_
  refine vc_condP rfl (fun h1 => ?_) (fun h1 => ?_)
  ·
    try simp only [Int.toNat_natCast] at h1
    refine vc_skip ?_
    refine vc_seq ?_
    refine vc_block ?_
    refine vc_seq ?_
    refine vc_regionD rfl ?_
    have e1 : ((i : Int) - 1).toNat = i - 1 := by omega
    refine oq5 ?_
    refine oq2 ?_
    refine oq1 ?_
    refine oq4 ?_
    refine oq3 ?_
    refine oq2 ?_
    refine oq5 ?_
    refine oq2 ?_
    refine oq1 ?_
    refine oq3 ?_
    refine oq2 ?_
    refine run_alloc rfl trivial rfl rfl rfl rfl (by intro _ _ h; cases h) ?_
    refine run_alloc rfl trivial rfl rfl rfl rfl (by intro _ _ h; cases h) ?_
    refine Sx.run_store rfl trivial rfl rfl rfl rfl rfl rfl rfl ?_
    refine Sx.run_store rfl trivial rfl rfl rfl rfl rfl rfl rfl ?_
    refine run_nil ⟨rfl, ?_⟩
    refine vc_seq ?_
    refine vc_region ?_
    refine oq1 ?_
    refine oq5 ?_
    refine oq2 ?_
    refine oq6 ?_
    refine run_nil ?_
    refine vc_condP rfl (fun h2 => ?_) (fun h2 => ?_)
    ·
      try simp only [Int.toNat_natCast] at h2
      refine vc_seq ?_
      refine vc_regionD rfl ?_
      have hs : seg k.marks dip i = i := by rw [seg, if_neg (by intro h; omega)]
      have hr := hg.rise (i - 1) (by omega)
      have hb := hg.bounds (i - 1) (by omega)
      rw [show i - 1 + 1 = i by omega] at hr
      have hl2 : (k.marks.getD (i - 1) default).dip ≤ dip := by rcases hl with rfl | hl; (· show (k.marks.getD 0 default).dip ≤ dip; rw [hg.zero]; exact h0); (· omega)
      have hf := lin_facts (a := k.marks.getD (i - 1) default) (b := k.marks.getD i default) (dip := dip) (by omega) (by omega) (by omega) (by omega) (by omega) (by omega) hl2 (by omega)
      rw [← e1] at hr hb hl2 hf
      refine oq5 ?_
      refine oq2 ?_
      refine oq5 ?_
      refine oq2 ?_
      refine oq5 ?_
      refine oq2 ?_
      refine oq4 ?_
      refine oq1 ?_
      refine oq5 ?_
      refine oq2 ?_
      refine oq4 ?_
      refine oq4 ?_
      refine oq5 ?_
      refine oq2 ?_
      refine oq5 ?_
      refine oq2 ?_
      refine oq4 ?_
      refine run_q rfl trivial rfl rfl rfl (quo64 (by (try simp only [Int.toNat_natCast]); omega) (by (try simp only [Int.toNat_natCast]); omega) (by (try simp only [Int.toNat_natCast]); omega)) ?_
      refine oq4 ?_
      refine oq1 ?_
      refine run_nil ⟨rfl, ?_⟩
      refine vc_ret ?_
      refine ret_pure rfl trivial rfl (AVle.of_eq ?_)
      refine aInt_eq ?_
      rw [Csk.content, ← hx, hs, lin, ← e1]; rfl
    ·
      try simp only [Int.toNat_natCast] at h2
      refine vc_skip ?_
      refine vc_region ?_
      refine oq1 ?_
      refine oq4 ?_
      refine oq1 ?_
      refine run_nil ?_
      have h1 : (k.marks.getD i default).dip < dip := by omega
      have hne : i ≠ k.marks.length - 1 := fun he => by rw [Csk.top, ← he] at hd; omega
      refine ⟨i + 1, ⟨by omega, by omega, .inr (by simpa using h1), ?_⟩, by omega, ent_ren [] (.cons (.refl _) rfl (.cons (.refl _) rfl (.cons (.refl _) rfl (.nil)))) (.cons rfl (.refl _) rfl rfl (.nil)) rfl rfl (fun i hi => ⟨rfl, Nat.lt_of_lt_of_le hi (Nat.le_of_ble_eq_true rfl)⟩)⟩
      rw [← hx, seg.eq_def k.marks dip i, if_pos ⟨hi, h1⟩]
  ·
    try simp only [Int.toNat_natCast] at h1
    omega

theorem mean_c (c : Clr) (g : Gg) (h0 : 0 ≤ g.cask) (h1 : g.cask < c.casks.length) (hg : GoodMarks (c.cask g.cask).marks) (hd0 : 0 ≤ g.dip.lo) (hd1 : g.dip.lo ≤ g.dip.hi) (hd2 : g.dip.hi ≤ (c.cask g.cask).top.dip) : CallC Try.prog 74 0 (lkF [] fun _ => none) [aClr c, aGg g] 0 (lkF [] fun _ => none) (aRng (c.mean g)) := by
  refine callC_intro tabOk mixed Try.func74 rfl rfl rfl rfl ?_
  intro w0 e0 Z0 X hX n
  have ht := hg.top
  refine vc_seq ?_
  refine vc_region ?_
  refine run_box rfl trivial rfl rfl rfl rfl rfl rfl (by intro _ _ h; cases h) ?_
  refine run_box rfl trivial rfl rfl rfl rfl rfl rfl (by intro _ _ h; cases h) ?_
  refine run_alloc rfl trivial rfl rfl rfl rfl (by intro _ _ h; cases h) ?_
  refine run_nil ?_
  refine vc_seq ?_
  refine vc_region ?_
  refine oq5 ?_
  refine oq2 ?_
  refine oq5 ?_
  refine oq2 ?_
  refine oq3 ?_
  refine oq2 ?_
  refine run_alloc rfl trivial rfl rfl rfl rfl (by intro _ _ h; cases h) ?_
  refine Sx.run_store rfl trivial rfl rfl rfl rfl rfl rfl rfl ?_
  refine run_nil ?_
  refine vc_seq ?_
  refine vc_region ?_
  refine oq5 ?_
  refine oq2 ?_
  refine run_alloc rfl trivial rfl rfl rfl rfl (by intro _ _ h; cases h) ?_
  refine Sx.run_store rfl trivial rfl rfl rfl rfl rfl rfl rfl ?_
  refine run_nil ?_
  refine vc_seq ?_
  refine vc_seq ?_
  refine vc_region ?_
  refine oq5 ?_
  refine oq2 ?_
  refine run_nil ?_
  refine vc_cond rfl (fun h1 => ?_) (fun h1 => ?_)
  ·
    try simp only [Int.toNat_natCast] at h1
    have hdry1 := h1
    refine vc_regionD rfl ?_
    refine oq2 ?_
    refine run_callP (top_c (c.cask g.cask) hg.pos) rfl rfl rfl trivial rfl rfl rfl rfl ?_
    refine run_q rfl trivial rfl rfl rfl (Nat.le_of_ble_eq_true rfl) ?_
    refine oq5 ?_
    refine oq5 ?_
    refine oq2 ?_
    refine oq4 ?_
    refine oq2 ?_
    refine run_callP (top_c (c.cask g.cask) hg.pos) rfl rfl rfl trivial rfl rfl rfl rfl ?_
    refine run_q rfl trivial rfl rfl rfl (Nat.le_of_ble_eq_true rfl) ?_
    refine oq5 ?_
    refine oq5 ?_
    refine oq2 ?_
    refine oq4 ?_
    refine oq1 ?_
    refine Sx.run_store rfl trivial rfl rfl rfl rfl rfl rfl rfl ?_
    refine run_nil ⟨rfl, ?_⟩
    refine vc_seq ?_
    refine vc_regionD rfl ?_
    refine oq2 ?_
    refine oq5 ?_
    refine oq2 ?_
    first
      | refine run_callP (content_c (c.cask g.cask) ((c.cask g.cask).top.dip - g.dip.hi) hg (by omega) (by omega)) rfl rfl rfl trivial rfl rfl rfl rfl ?_
      | refine run_callP (content_c (c.cask g.cask) (g.dip.lo) hg (by omega) (by omega)) rfl rfl rfl trivial rfl rfl rfl rfl ?_
    refine oq2 ?_
    refine oq5 ?_
    refine oq2 ?_
    first
      | refine run_callP (content_c (c.cask g.cask) ((c.cask g.cask).top.dip - g.dip.lo) hg (by omega) (by omega)) rfl rfl rfl trivial rfl rfl rfl rfl ?_
      | refine run_callP (content_c (c.cask g.cask) (g.dip.hi) hg (by omega) (by omega)) rfl rfl rfl trivial rfl rfl rfl rfl ?_
    refine oq1 ?_
    refine Sx.run_store rfl trivial rfl rfl rfl rfl rfl rfl rfl ?_
    refine run_nil ⟨rfl, ?_⟩
    refine vc_ret ?_
    refine ret_pure rfl (Nat.le_of_ble_eq_true rfl) rfl (AVle.of_eq ?_)
    simp only [Clr.mean, hdry1, if_true, Bool.false_eq_true, if_false]
    rfl
  ·
    try simp only [Int.toNat_natCast] at h1
    have hdry1 := h1
    refine vc_skip ?_
    refine vc_seq ?_
    refine vc_regionD rfl ?_
    refine oq2 ?_
    refine oq5 ?_
    refine oq2 ?_
    first
      | refine run_callP (content_c (c.cask g.cask) ((c.cask g.cask).top.dip - g.dip.hi) hg (by omega) (by omega)) rfl rfl rfl trivial rfl rfl rfl rfl ?_
      | refine run_callP (content_c (c.cask g.cask) (g.dip.lo) hg (by omega) (by omega)) rfl rfl rfl trivial rfl rfl rfl rfl ?_
    refine oq2 ?_
    refine oq5 ?_
    refine oq2 ?_
    first
      | refine run_callP (content_c (c.cask g.cask) ((c.cask g.cask).top.dip - g.dip.lo) hg (by omega) (by omega)) rfl rfl rfl trivial rfl rfl rfl rfl ?_
      | refine run_callP (content_c (c.cask g.cask) (g.dip.hi) hg (by omega) (by omega)) rfl rfl rfl trivial rfl rfl rfl rfl ?_
    refine oq1 ?_
    refine Sx.run_store rfl trivial rfl rfl rfl rfl rfl rfl rfl ?_
    refine run_nil ⟨rfl, ?_⟩
    refine vc_ret ?_
    refine ret_pure rfl (Nat.le_of_ble_eq_true rfl) rfl (AVle.of_eq ?_)
    simp only [Clr.mean, hdry1, if_true, Bool.false_eq_true, if_false]
    rfl

theorem Mean_c (c : Clr) (g : Gg) (h0 : 0 ≤ g.cask) (h1 : g.cask < c.casks.length) (hg : GoodMarks (c.cask g.cask).marks) (hd0 : 0 ≤ g.dip.lo) (hd1 : g.dip.lo ≤ g.dip.hi) (hd2 : g.dip.hi ≤ (c.cask g.cask).top.dip) : CallC Try.prog 99 0 (lkF [] fun _ => none) [aClr c, aGg g] 0 (lkF [] fun _ => none) (aRng (c.mean g)) := by
  refine callC_intro tabOk mixed Try.func99 rfl rfl rfl rfl ?_
  intro w0 e0 Z0 X hX n
  have ht := hg.top
  refine vc_seq ?_
  refine vc_region ?_
  refine run_box rfl trivial rfl rfl rfl rfl rfl rfl (by intro _ _ h; cases h) ?_
  refine run_box rfl trivial rfl rfl rfl rfl rfl rfl (by intro _ _ h; cases h) ?_
  refine run_alloc rfl trivial rfl rfl rfl rfl (by intro _ _ h; cases h) ?_
  refine run_nil ?_
  refine vc_seq ?_
  refine vc_region ?_
  refine oq5 ?_
  refine oq2 ?_
  refine oq5 ?_
  refine oq2 ?_
  refine oq3 ?_
  refine oq2 ?_
  refine run_alloc rfl trivial rfl rfl rfl rfl (by intro _ _ h; cases h) ?_
  refine Sx.run_store rfl trivial rfl rfl rfl rfl rfl rfl rfl ?_
  refine run_nil ?_
  refine vc_seq ?_
  refine vc_seq ?_
  refine vc_region ?_
  refine oq5 ?_
  refine oq2 ?_
  refine run_nil ?_
  refine vc_cond rfl (fun h1 => ?_) (fun h1 => ?_)
  ·
    try simp only [Int.toNat_natCast] at h1
    have hdry1 := h1
    refine vc_seq ?_
    refine vc_regionD rfl ?_
    refine oq2 ?_
    refine oq2 ?_
    refine run_callP (Depth_c (c.cask g.cask) hg.pos) rfl rfl rfl trivial rfl rfl rfl rfl ?_
    refine oq5 ?_
    refine oq5 ?_
    refine oq2 ?_
    refine oq4 ?_
    refine run_callP (Content_c (c.cask g.cask) ((c.cask g.cask).top.dip - g.dip.hi) hg (by omega) (by omega)) rfl rfl rfl trivial rfl rfl rfl rfl ?_
    refine oq2 ?_
    refine oq2 ?_
    refine run_callP (Depth_c (c.cask g.cask) hg.pos) rfl rfl rfl trivial rfl rfl rfl rfl ?_
    refine oq5 ?_
    refine oq5 ?_
    refine oq2 ?_
    refine oq4 ?_
    refine run_callP (Content_c (c.cask g.cask) ((c.cask g.cask).top.dip - g.dip.lo) hg (by omega) (by omega)) rfl rfl rfl trivial rfl rfl rfl rfl ?_
    refine oq1 ?_
    refine Sx.run_store rfl trivial rfl rfl rfl rfl rfl rfl rfl ?_
    refine run_nil ⟨rfl, ?_⟩
    refine vc_ret ?_
    refine ret_pure rfl (Nat.le_of_ble_eq_true rfl) rfl (AVle.of_eq ?_)
    simp only [Clr.mean, hdry1, if_true, Bool.false_eq_true, if_false]
    rfl
  ·
    try simp only [Int.toNat_natCast] at h1
    have hdry1 := h1
    refine vc_skip ?_
    refine vc_seq ?_
    refine vc_regionD rfl ?_
    refine oq2 ?_
    refine oq5 ?_
    refine oq5 ?_
    refine oq2 ?_
    refine run_callP (Content_c (c.cask g.cask) (g.dip.lo) hg (by omega) (by omega)) rfl rfl rfl trivial rfl rfl rfl rfl ?_
    refine oq2 ?_
    refine oq5 ?_
    refine oq5 ?_
    refine oq2 ?_
    refine run_callP (Content_c (c.cask g.cask) (g.dip.hi) hg (by omega) (by omega)) rfl rfl rfl trivial rfl rfl rfl rfl ?_
    refine oq1 ?_
    refine Sx.run_store rfl trivial rfl rfl rfl rfl rfl rfl rfl ?_
    refine run_nil ⟨rfl, ?_⟩
    refine vc_ret ?_
    refine ret_pure rfl (Nat.le_of_ble_eq_true rfl) rfl (AVle.of_eq ?_)
    simp only [Clr.mean, hdry1, if_true, Bool.false_eq_true, if_false]
    rfl

end Go.Proofs.Ytnkgdapdccpjmaa

/- all[T], with passes that have no variables of their own. -/
namespace Go.Proofs.Ytnkgdapdccpjmaa
open Go Go.RowKit Go.Sx

/-- What a pass is given. -/
def passArgs (first : List (List FV)) (y : AV) : List AV := first.map (fun l => AV.s (.agg (l.map CV.f))) ++ [y] ++ []
theorem okPass {first : List (List FV)} {y : AV} (n : Nat) (h : y.okL n = true) : (passArgs first y).all (AV.okL n) = true := by
  simp only [passArgs, List.append_nil, List.all_append, Bool.and_eq_true, List.all_map, List.all_eq_true, List.all_cons, List.all_nil, Bool.and_true]
  refine ⟨fun l _ => ?_, h⟩
  simp only [Function.comp_apply, AV.okL, SV.okL, List.all_map, List.all_eq_true]
  intro x _
  rfl

/-- Where a test first fails. -/
def idxN {α : Type} (d : α) (test : α → Bool) (l : List α) (i : Nat) : Int := if i < l.length then (if test (l.getD i d) = false then i else idxN d test l (i + 1)) else -1
termination_by l.length - i

theorem idxN_all {α : Type} (d : α) (test : α → Bool) (l : List α) : ∀ (n i : Nat), n = l.length - i → (decide (0 ≤ idxN d test l i) = !((l.drop i).all test)) := by
  intro n
  induction n with
  | zero =>
    intro i h
    rw [idxN, if_neg (by omega), List.drop_eq_nil_of_le (by omega)]; rfl
  | succ n ih =>
    intro i h
    have hlt : i < l.length := by omega
    rw [idxN, if_pos hlt, List.drop_eq_getElem_cons hlt]
    have e : l.getD i d = l[i] := by simp [List.getD, List.getElem?_eq_getElem hlt]
    rw [e]
    cases ht : test l[i] with
    | false => rw [if_pos rfl, List.all_cons, ht]; simp only [Bool.false_and, Bool.not_false, decide_eq_true_eq]; omega
    | true =>
      rw [if_neg (by simp), ih (i + 1) (by omega), List.all_cons, ht, Bool.true_and]

theorem all1Csk_c {pf : FuncId} {first : List (List FV)} {test : Csk → Bool} (x : Csk) (hp : CallC Try.prog pf 0 (lkF [] fun _ => none) (passArgs first (aCsk x)) 0 (lkF [] fun _ => none) (aBool (test x))) : CallC Try.prog 107 1 (lkF [(0, some (.cells 157 [.fn pf first []]))] fun _ => none) [aCsk x, .s (.c (.ptr 0 0))] 1 (lkF [(0, some (.cells 157 [.fn pf first []]))] fun _ => none) (aBool (!test x)) := by
  refine callC_intro tabOk mixed Try.func107 rfl rfl rfl rfl ?_
  intro w0 e0 Z0 X hX n
  refine vc_seq ?_
  refine vc_region ?_
  refine run_box rfl trivial rfl rfl rfl rfl rfl rfl (by intro _ _ h; cases h) ?_
  refine oq1 ?_
  refine run_nil ?_
  refine vc_seq ?_
  refine vc_region ?_
  refine oq2 ?_
  refine oq2 ?_
  refine run_callP hp rfl rfl rfl trivial rfl rfl rfl (okPass 0 rfl) ?_
  refine oq1 ?_
  refine oq1 ?_
  refine run_nil ?_
  refine vc_ret ?_
  refine ⟨[], _, _, rfl, trivial, AVle.of_eq ?_, rfl, .cons rfl (.refl _) rfl rfl .nil, rfl, fun i hi => rfl⟩
  rfl

theorem idxCsk_c {pf : FuncId} {first : List (List FV)} {test : Csk → Bool} (l : List Csk) (hp : ∀ x ∈ l, CallC Try.prog pf 0 (lkF [] fun _ => none) (passArgs first (aCsk x)) 0 (lkF [] fun _ => none) (aBool (test x))) : CallC Try.prog 114 1 (lkF [(0, some (.cells 157 [.fn pf first []]))] fun _ => none) [.s (.c (.f (csks l))), .s (.c (.fn 107 [] [0]))] 1 (lkF [(0, some (.cells 157 [.fn pf first []]))] fun _ => none) (aInt .i64 (idxN default test l 0)) := by
  refine callC_intro tabOk mixed Try.func114 rfl rfl rfl rfl ?_
  intro w0 e0 Z0 X hX n
  refine vc_len 0 rfl fun hlen => ?_
  refine vc_seq ?_
  refine vc_region ?_
  refine oq1 ?_
  refine run_nil ?_
  refine vc_seq ?_
  refine vc_seq ?_
  refine vc_region ?_
  refine oq1 ?_
  refine oq1 ?_
  refine oq1 ?_
  refine run_nil ?_
  refine vc_block ?_
  refine vc_loop (κ := Nat) (fun i => i ≤ l.length ∧ idxN default test l i = idxN default test l 0) (fun i => ⟨[(0, .s (.c (.f (csks l)))), (1, .s (.c (.fn 107 [] [0]))), (7, aInt .i64 l.length), (8, aInt .i64 (i : Int))], [(0, some (.cells 157 [.fn pf first []]))], fun _ => none, 1⟩) (fun i => l.length - i) 0 ⟨Nat.zero_le _, rfl⟩ ?_ ?_
  ·
    exact ent_ren [] (.cons (.refl _) rfl (.cons (.refl _) rfl (.cons (.refl _) rfl (.cons (.refl _) rfl (.nil))))) (.cons rfl (.refl _) rfl rfl (.nil)) rfl rfl (fun i hi => ⟨rfl, Nat.lt_of_lt_of_le hi (Nat.le_of_ble_eq_true rfl)⟩)
  rintro i ⟨hi, hx⟩
  refine vc_seq ?_
  refine vc_region ?_
  refine oq6 ?_
  refine run_nil ?_
  refine vc_seq ?_
  refine vc_condP rfl (fun h1 => ?_) (fun h1 => ?_)
  ·
    try simp only [Int.toNat_natCast] at h1
    refine vc_skip ?_
    refine vc_seq ?_
    refine vc_block ?_
    refine vc_seq ?_
    refine vc_region ?_
    refine oq1 ?_
    refine oq1 ?_
    refine run_nil ?_
    refine vc_seq ?_
    refine vc_region ?_
    have hmem : l.getD i default ∈ l := by rw [show l.getD i default = l[i]'(by omega) by simp [List.getD, List.getElem?_eq_getElem (show i < l.length by omega)]]; exact List.getElem_mem _
    refine oq1 ?_
    refine oq1 ?_
    refine oq1 ?_
    refine oq3 ?_
    refine oq2 ?_
    refine run_call (all1Csk_c (l.getD i default) (hp _ hmem)) [] rfl rfl rfl trivial rfl rfl rfl rfl (.cons rfl (.refl _) rfl rfl .nil) rfl rfl rfl rfl rfl ?_
    refine run_nil ?_
    refine vc_cond rfl (fun h2 => ?_) (fun h2 => ?_)
    ·
      try simp only [Int.toNat_natCast] at h2
      refine vc_seq ?_
      refine vc_region ?_
      refine oq1 ?_
      refine oq1 ?_
      refine run_nil ?_
      refine vc_ret ?_
      refine ⟨[], _, _, rfl, trivial, AVle.of_eq ?_, rfl, .cons rfl (.refl _) rfl rfl .nil, rfl, fun i hi => rfl⟩
      refine aInt_eq ?_
      rw [← hx, idxN]
      first
        | (rw [if_pos (by omega), if_pos (by simpa using h2)])
        | (rw [if_neg (by omega)])
    ·
      try simp only [Int.toNat_natCast] at h2
      refine vc_skip ?_
      refine vc_region ?_
      refine oq4 ?_
      refine oq1 ?_
      refine run_nil ?_
      refine ⟨i + 1, ⟨by omega, ?_⟩, by omega, ent_ren [] (.cons (.refl _) rfl (.cons (.refl _) rfl (.cons (.refl _) rfl (.cons (.refl _) rfl (.nil))))) (.cons rfl (.refl _) rfl rfl (.nil)) rfl rfl (fun i hi => ⟨rfl, Nat.lt_of_lt_of_le hi (Nat.le_of_ble_eq_true rfl)⟩)⟩
      rw [← hx, idxN.eq_def default test l i, if_pos (by omega), if_neg (by simpa using h2)]
  ·
    try simp only [Int.toNat_natCast] at h1
    refine vc_exit ?_
    refine vc_seq ?_
    refine vc_region ?_
    refine oq1 ?_
    refine run_nil ?_
    refine vc_ret ?_
    refine ⟨[], _, _, rfl, trivial, AVle.of_eq ?_, rfl, .cons rfl (.refl _) rfl rfl .nil, rfl, fun i hi => rfl⟩
    refine aInt_eq ?_
    rw [← hx, idxN]
    first
      | (rw [if_pos (by omega), if_pos (by simpa using h2)])
      | (rw [if_neg (by omega)])

theorem contCsk_c {pf : FuncId} {first : List (List FV)} {test : Csk → Bool} (l : List Csk) (hp : ∀ x ∈ l, CallC Try.prog pf 0 (lkF [] fun _ => none) (passArgs first (aCsk x)) 0 (lkF [] fun _ => none) (aBool (test x))) : CallC Try.prog 106 1 (lkF [(0, some (.cells 157 [.fn pf first []]))] fun _ => none) [.s (.c (.f (csks l))), .s (.c (.fn 107 [] [0]))] 1 (lkF [(0, some (.cells 157 [.fn pf first []]))] fun _ => none) (aBool (decide (0 ≤ idxN default test l 0))) := by
  refine callC_intro tabOk mixed Try.func106 rfl rfl rfl rfl ?_
  intro w0 e0 Z0 X hX n
  refine vc_seq ?_
  refine vc_region ?_
  refine oq1 ?_
  refine run_nil ?_
  refine vc_seq ?_
  refine vc_region ?_
  refine oq1 ?_
  refine oq1 ?_
  refine run_call (idxCsk_c l hp) [] rfl rfl rfl trivial rfl rfl rfl rfl (.cons rfl (.refl _) rfl rfl .nil) rfl rfl rfl rfl rfl ?_
  refine oq6 ?_
  refine oq1 ?_
  refine run_nil ?_
  refine vc_ret ?_
  refine ⟨[], _, _, rfl, trivial, AVle.of_eq ?_, rfl, .cons rfl (.refl _) rfl rfl .nil, rfl, fun i hi => rfl⟩
  rfl

theorem allCsk_c {pf : FuncId} {first : List (List FV)} {test : Csk → Bool} (l : List Csk) (hp : ∀ x ∈ l, CallC Try.prog pf 0 (lkF [] fun _ => none) (passArgs first (aCsk x)) 0 (lkF [] fun _ => none) (aBool (test x))) : CallC Try.prog 89 0 (lkF [] fun _ => none) [.s (.c (.f (csks l))), .s (.c (.fn pf first []))] 0 (lkF [] fun _ => none) (aBool (l.all test)) := by
  refine callC_intro tabOk mixed Try.func89 rfl rfl rfl rfl ?_
  intro w0 e0 Z0 X hX n
  refine vc_seq ?_
  refine vc_region ?_
  refine run_box rfl trivial rfl rfl rfl rfl rfl rfl (by intro _ _ h; cases h) ?_
  refine oq1 ?_
  refine run_nil ?_
  refine vc_seq ?_
  refine vc_region ?_
  refine oq1 ?_
  refine oq1 ?_
  refine run_call (contCsk_c l hp) [] rfl rfl rfl trivial rfl rfl rfl rfl (.cons rfl (.refl _) rfl rfl .nil) rfl rfl rfl rfl rfl ?_
  refine oq1 ?_
  refine oq1 ?_
  refine run_nil ?_
  refine vc_ret ?_
  refine ret_pure rfl trivial rfl (AVle.of_eq ?_)
  refine aBool_eq ?_
  rw [idxN_all default test l l.length 0 (by omega)]; simp

theorem all1Mov_c {pf : FuncId} {first : List (List FV)} {test : Mov → Bool} (x : Mov) (hp : CallC Try.prog pf 0 (lkF [] fun _ => none) (passArgs first (aMov x)) 0 (lkF [] fun _ => none) (aBool (test x))) : CallC Try.prog 110 1 (lkF [(0, some (.cells 156 [.fn pf first []]))] fun _ => none) [aMov x, .s (.c (.ptr 0 0))] 1 (lkF [(0, some (.cells 156 [.fn pf first []]))] fun _ => none) (aBool (!test x)) := by
  refine callC_intro tabOk mixed Try.func110 rfl rfl rfl rfl ?_
  intro w0 e0 Z0 X hX n
  refine vc_seq ?_
  refine vc_region ?_
  refine run_box rfl trivial rfl rfl rfl rfl rfl rfl (by intro _ _ h; cases h) ?_
  refine oq1 ?_
  refine run_nil ?_
  refine vc_seq ?_
  refine vc_region ?_
  refine oq2 ?_
  refine oq2 ?_
  refine run_callP hp rfl rfl rfl trivial rfl rfl rfl (okPass 0 rfl) ?_
  refine oq1 ?_
  refine oq1 ?_
  refine run_nil ?_
  refine vc_ret ?_
  refine ⟨[], _, _, rfl, trivial, AVle.of_eq ?_, rfl, .cons rfl (.refl _) rfl rfl .nil, rfl, fun i hi => rfl⟩
  rfl

theorem idxMov_c {pf : FuncId} {first : List (List FV)} {test : Mov → Bool} (l : List Mov) (hp : ∀ x ∈ l, CallC Try.prog pf 0 (lkF [] fun _ => none) (passArgs first (aMov x)) 0 (lkF [] fun _ => none) (aBool (test x))) : CallC Try.prog 117 1 (lkF [(0, some (.cells 156 [.fn pf first []]))] fun _ => none) [.s (.c (.f (movs l))), .s (.c (.fn 110 [] [0]))] 1 (lkF [(0, some (.cells 156 [.fn pf first []]))] fun _ => none) (aInt .i64 (idxN default test l 0)) := by
  refine callC_intro tabOk mixed Try.func117 rfl rfl rfl rfl ?_
  intro w0 e0 Z0 X hX n
  refine vc_len 0 rfl fun hlen => ?_
  refine vc_seq ?_
  refine vc_region ?_
  refine oq1 ?_
  refine run_nil ?_
  refine vc_seq ?_
  refine vc_seq ?_
  refine vc_region ?_
  refine oq1 ?_
  refine oq1 ?_
  refine oq1 ?_
  refine run_nil ?_
  refine vc_block ?_
  refine vc_loop (κ := Nat) (fun i => i ≤ l.length ∧ idxN default test l i = idxN default test l 0) (fun i => ⟨[(0, .s (.c (.f (movs l)))), (1, .s (.c (.fn 110 [] [0]))), (7, aInt .i64 l.length), (8, aInt .i64 (i : Int))], [(0, some (.cells 156 [.fn pf first []]))], fun _ => none, 1⟩) (fun i => l.length - i) 0 ⟨Nat.zero_le _, rfl⟩ ?_ ?_
  ·
    exact ent_ren [] (.cons (.refl _) rfl (.cons (.refl _) rfl (.cons (.refl _) rfl (.cons (.refl _) rfl (.nil))))) (.cons rfl (.refl _) rfl rfl (.nil)) rfl rfl (fun i hi => ⟨rfl, Nat.lt_of_lt_of_le hi (Nat.le_of_ble_eq_true rfl)⟩)
  rintro i ⟨hi, hx⟩
  refine vc_seq ?_
  refine vc_region ?_
  refine oq6 ?_
  refine run_nil ?_
  refine vc_seq ?_
  refine vc_condP rfl (fun h1 => ?_) (fun h1 => ?_)
  ·
    try simp only [Int.toNat_natCast] at h1
    refine vc_skip ?_
    refine vc_seq ?_
    refine vc_block ?_
    refine vc_seq ?_
    refine vc_region ?_
    refine oq1 ?_
    refine oq1 ?_
    refine run_nil ?_
    refine vc_seq ?_
    refine vc_region ?_
    have hmem : l.getD i default ∈ l := by rw [show l.getD i default = l[i]'(by omega) by simp [List.getD, List.getElem?_eq_getElem (show i < l.length by omega)]]; exact List.getElem_mem _
    refine oq1 ?_
    refine oq1 ?_
    refine oq1 ?_
    refine oq3 ?_
    refine oq2 ?_
    refine run_call (all1Mov_c (l.getD i default) (hp _ hmem)) [] rfl rfl rfl trivial rfl rfl rfl rfl (.cons rfl (.refl _) rfl rfl .nil) rfl rfl rfl rfl rfl ?_
    refine run_nil ?_
    refine vc_cond rfl (fun h2 => ?_) (fun h2 => ?_)
    ·
      try simp only [Int.toNat_natCast] at h2
      refine vc_seq ?_
      refine vc_region ?_
      refine oq1 ?_
      refine oq1 ?_
      refine run_nil ?_
      refine vc_ret ?_
      refine ⟨[], _, _, rfl, trivial, AVle.of_eq ?_, rfl, .cons rfl (.refl _) rfl rfl .nil, rfl, fun i hi => rfl⟩
      refine aInt_eq ?_
      rw [← hx, idxN]
      first
        | (rw [if_pos (by omega), if_pos (by simpa using h2)])
        | (rw [if_neg (by omega)])
    ·
      try simp only [Int.toNat_natCast] at h2
      refine vc_skip ?_
      refine vc_region ?_
      refine oq4 ?_
      refine oq1 ?_
      refine run_nil ?_
      refine ⟨i + 1, ⟨by omega, ?_⟩, by omega, ent_ren [] (.cons (.refl _) rfl (.cons (.refl _) rfl (.cons (.refl _) rfl (.cons (.refl _) rfl (.nil))))) (.cons rfl (.refl _) rfl rfl (.nil)) rfl rfl (fun i hi => ⟨rfl, Nat.lt_of_lt_of_le hi (Nat.le_of_ble_eq_true rfl)⟩)⟩
      rw [← hx, idxN.eq_def default test l i, if_pos (by omega), if_neg (by simpa using h2)]
  ·
    try simp only [Int.toNat_natCast] at h1
    refine vc_exit ?_
    refine vc_seq ?_
    refine vc_region ?_
    refine oq1 ?_
    refine run_nil ?_
    refine vc_ret ?_
    refine ⟨[], _, _, rfl, trivial, AVle.of_eq ?_, rfl, .cons rfl (.refl _) rfl rfl .nil, rfl, fun i hi => rfl⟩
    refine aInt_eq ?_
    rw [← hx, idxN]
    first
      | (rw [if_pos (by omega), if_pos (by simpa using h2)])
      | (rw [if_neg (by omega)])

theorem contMov_c {pf : FuncId} {first : List (List FV)} {test : Mov → Bool} (l : List Mov) (hp : ∀ x ∈ l, CallC Try.prog pf 0 (lkF [] fun _ => none) (passArgs first (aMov x)) 0 (lkF [] fun _ => none) (aBool (test x))) : CallC Try.prog 109 1 (lkF [(0, some (.cells 156 [.fn pf first []]))] fun _ => none) [.s (.c (.f (movs l))), .s (.c (.fn 110 [] [0]))] 1 (lkF [(0, some (.cells 156 [.fn pf first []]))] fun _ => none) (aBool (decide (0 ≤ idxN default test l 0))) := by
  refine callC_intro tabOk mixed Try.func109 rfl rfl rfl rfl ?_
  intro w0 e0 Z0 X hX n
  refine vc_seq ?_
  refine vc_region ?_
  refine oq1 ?_
  refine run_nil ?_
  refine vc_seq ?_
  refine vc_region ?_
  refine oq1 ?_
  refine oq1 ?_
  refine run_call (idxMov_c l hp) [] rfl rfl rfl trivial rfl rfl rfl rfl (.cons rfl (.refl _) rfl rfl .nil) rfl rfl rfl rfl rfl ?_
  refine oq6 ?_
  refine oq1 ?_
  refine run_nil ?_
  refine vc_ret ?_
  refine ⟨[], _, _, rfl, trivial, AVle.of_eq ?_, rfl, .cons rfl (.refl _) rfl rfl .nil, rfl, fun i hi => rfl⟩
  rfl

theorem allMov_c {pf : FuncId} {first : List (List FV)} {test : Mov → Bool} (l : List Mov) (hp : ∀ x ∈ l, CallC Try.prog pf 0 (lkF [] fun _ => none) (passArgs first (aMov x)) 0 (lkF [] fun _ => none) (aBool (test x))) : CallC Try.prog 91 0 (lkF [] fun _ => none) [.s (.c (.f (movs l))), .s (.c (.fn pf first []))] 0 (lkF [] fun _ => none) (aBool (l.all test)) := by
  refine callC_intro tabOk mixed Try.func91 rfl rfl rfl rfl ?_
  intro w0 e0 Z0 X hX n
  refine vc_seq ?_
  refine vc_region ?_
  refine run_box rfl trivial rfl rfl rfl rfl rfl rfl (by intro _ _ h; cases h) ?_
  refine oq1 ?_
  refine run_nil ?_
  refine vc_seq ?_
  refine vc_region ?_
  refine oq1 ?_
  refine oq1 ?_
  refine run_call (contMov_c l hp) [] rfl rfl rfl trivial rfl rfl rfl rfl (.cons rfl (.refl _) rfl rfl .nil) rfl rfl rfl rfl rfl ?_
  refine oq1 ?_
  refine oq1 ?_
  refine run_nil ?_
  refine vc_ret ?_
  refine ret_pure rfl trivial rfl (AVle.of_eq ?_)
  refine aBool_eq ?_
  rw [idxN_all default test l l.length 0 (by omega)]; simp

theorem all1Gg_c {pf : FuncId} {first : List (List FV)} {test : Gg → Bool} (x : Gg) (hp : CallC Try.prog pf 0 (lkF [] fun _ => none) (passArgs first (aGg x)) 0 (lkF [] fun _ => none) (aBool (test x))) : CallC Try.prog 98 1 (lkF [(0, some (.cells 139 [.fn pf first []]))] fun _ => none) [aGg x, .s (.c (.ptr 0 0))] 1 (lkF [(0, some (.cells 139 [.fn pf first []]))] fun _ => none) (aBool (!test x)) := by
  refine callC_intro tabOk mixed Try.func98 rfl rfl rfl rfl ?_
  intro w0 e0 Z0 X hX n
  refine vc_seq ?_
  refine vc_region ?_
  refine run_box rfl trivial rfl rfl rfl rfl rfl rfl (by intro _ _ h; cases h) ?_
  refine oq1 ?_
  refine run_nil ?_
  refine vc_seq ?_
  refine vc_region ?_
  refine oq2 ?_
  refine oq2 ?_
  refine run_callP hp rfl rfl rfl trivial rfl rfl rfl (okPass 0 rfl) ?_
  refine oq1 ?_
  refine oq1 ?_
  refine run_nil ?_
  refine vc_ret ?_
  refine ⟨[], _, _, rfl, trivial, AVle.of_eq ?_, rfl, .cons rfl (.refl _) rfl rfl .nil, rfl, fun i hi => rfl⟩
  rfl

theorem idxGg_c {pf : FuncId} {first : List (List FV)} {test : Gg → Bool} (l : List Gg) (hp : ∀ x ∈ l, CallC Try.prog pf 0 (lkF [] fun _ => none) (passArgs first (aGg x)) 0 (lkF [] fun _ => none) (aBool (test x))) : CallC Try.prog 113 1 (lkF [(0, some (.cells 139 [.fn pf first []]))] fun _ => none) [.s (.c (.f (ggs l))), .s (.c (.fn 98 [] [0]))] 1 (lkF [(0, some (.cells 139 [.fn pf first []]))] fun _ => none) (aInt .i64 (idxN default test l 0)) := by
  refine callC_intro tabOk mixed Try.func113 rfl rfl rfl rfl ?_
  intro w0 e0 Z0 X hX n
  refine vc_len 0 rfl fun hlen => ?_
  refine vc_seq ?_
  refine vc_region ?_
  refine oq1 ?_
  refine run_nil ?_
  refine vc_seq ?_
  refine vc_seq ?_
  refine vc_region ?_
  refine oq1 ?_
  refine oq1 ?_
  refine oq1 ?_
  refine run_nil ?_
  refine vc_block ?_
  refine vc_loop (κ := Nat) (fun i => i ≤ l.length ∧ idxN default test l i = idxN default test l 0) (fun i => ⟨[(0, .s (.c (.f (ggs l)))), (1, .s (.c (.fn 98 [] [0]))), (7, aInt .i64 l.length), (8, aInt .i64 (i : Int))], [(0, some (.cells 139 [.fn pf first []]))], fun _ => none, 1⟩) (fun i => l.length - i) 0 ⟨Nat.zero_le _, rfl⟩ ?_ ?_
  ·
    exact ent_ren [] (.cons (.refl _) rfl (.cons (.refl _) rfl (.cons (.refl _) rfl (.cons (.refl _) rfl (.nil))))) (.cons rfl (.refl _) rfl rfl (.nil)) rfl rfl (fun i hi => ⟨rfl, Nat.lt_of_lt_of_le hi (Nat.le_of_ble_eq_true rfl)⟩)
  rintro i ⟨hi, hx⟩
  refine vc_seq ?_
  refine vc_region ?_
  refine oq6 ?_
  refine run_nil ?_
  refine vc_seq ?_
  refine vc_condP rfl (fun h1 => ?_) (fun h1 => ?_)
  ·
    try simp only [Int.toNat_natCast] at h1
    refine vc_skip ?_
    refine vc_seq ?_
    refine vc_block ?_
    refine vc_seq ?_
    refine vc_region ?_
    refine oq1 ?_
    refine oq1 ?_
    refine run_nil ?_
    refine vc_seq ?_
    refine vc_region ?_
    have hmem : l.getD i default ∈ l := by rw [show l.getD i default = l[i]'(by omega) by simp [List.getD, List.getElem?_eq_getElem (show i < l.length by omega)]]; exact List.getElem_mem _
    refine oq1 ?_
    refine oq1 ?_
    refine oq1 ?_
    refine oq3 ?_
    refine oq2 ?_
    refine run_call (all1Gg_c (l.getD i default) (hp _ hmem)) [] rfl rfl rfl trivial rfl rfl rfl rfl (.cons rfl (.refl _) rfl rfl .nil) rfl rfl rfl rfl rfl ?_
    refine run_nil ?_
    refine vc_cond rfl (fun h2 => ?_) (fun h2 => ?_)
    ·
      try simp only [Int.toNat_natCast] at h2
      refine vc_seq ?_
      refine vc_region ?_
      refine oq1 ?_
      refine oq1 ?_
      refine run_nil ?_
      refine vc_ret ?_
      refine ⟨[], _, _, rfl, trivial, AVle.of_eq ?_, rfl, .cons rfl (.refl _) rfl rfl .nil, rfl, fun i hi => rfl⟩
      refine aInt_eq ?_
      rw [← hx, idxN]
      first
        | (rw [if_pos (by omega), if_pos (by simpa using h2)])
        | (rw [if_neg (by omega)])
    ·
      try simp only [Int.toNat_natCast] at h2
      refine vc_skip ?_
      refine vc_region ?_
      refine oq4 ?_
      refine oq1 ?_
      refine run_nil ?_
      refine ⟨i + 1, ⟨by omega, ?_⟩, by omega, ent_ren [] (.cons (.refl _) rfl (.cons (.refl _) rfl (.cons (.refl _) rfl (.cons (.refl _) rfl (.nil))))) (.cons rfl (.refl _) rfl rfl (.nil)) rfl rfl (fun i hi => ⟨rfl, Nat.lt_of_lt_of_le hi (Nat.le_of_ble_eq_true rfl)⟩)⟩
      rw [← hx, idxN.eq_def default test l i, if_pos (by omega), if_neg (by simpa using h2)]
  ·
    try simp only [Int.toNat_natCast] at h1
    refine vc_exit ?_
    refine vc_seq ?_
    refine vc_region ?_
    refine oq1 ?_
    refine run_nil ?_
    refine vc_ret ?_
    refine ⟨[], _, _, rfl, trivial, AVle.of_eq ?_, rfl, .cons rfl (.refl _) rfl rfl .nil, rfl, fun i hi => rfl⟩
    refine aInt_eq ?_
    rw [← hx, idxN]
    first
      | (rw [if_pos (by omega), if_pos (by simpa using h2)])
      | (rw [if_neg (by omega)])

theorem contGg_c {pf : FuncId} {first : List (List FV)} {test : Gg → Bool} (l : List Gg) (hp : ∀ x ∈ l, CallC Try.prog pf 0 (lkF [] fun _ => none) (passArgs first (aGg x)) 0 (lkF [] fun _ => none) (aBool (test x))) : CallC Try.prog 97 1 (lkF [(0, some (.cells 139 [.fn pf first []]))] fun _ => none) [.s (.c (.f (ggs l))), .s (.c (.fn 98 [] [0]))] 1 (lkF [(0, some (.cells 139 [.fn pf first []]))] fun _ => none) (aBool (decide (0 ≤ idxN default test l 0))) := by
  refine callC_intro tabOk mixed Try.func97 rfl rfl rfl rfl ?_
  intro w0 e0 Z0 X hX n
  refine vc_seq ?_
  refine vc_region ?_
  refine oq1 ?_
  refine run_nil ?_
  refine vc_seq ?_
  refine vc_region ?_
  refine oq1 ?_
  refine oq1 ?_
  refine run_call (idxGg_c l hp) [] rfl rfl rfl trivial rfl rfl rfl rfl (.cons rfl (.refl _) rfl rfl .nil) rfl rfl rfl rfl rfl ?_
  refine oq6 ?_
  refine oq1 ?_
  refine run_nil ?_
  refine vc_ret ?_
  refine ⟨[], _, _, rfl, trivial, AVle.of_eq ?_, rfl, .cons rfl (.refl _) rfl rfl .nil, rfl, fun i hi => rfl⟩
  rfl

theorem allGg_c {pf : FuncId} {first : List (List FV)} {test : Gg → Bool} (l : List Gg) (hp : ∀ x ∈ l, CallC Try.prog pf 0 (lkF [] fun _ => none) (passArgs first (aGg x)) 0 (lkF [] fun _ => none) (aBool (test x))) : CallC Try.prog 72 0 (lkF [] fun _ => none) [.s (.c (.f (ggs l))), .s (.c (.fn pf first []))] 0 (lkF [] fun _ => none) (aBool (l.all test)) := by
  refine callC_intro tabOk mixed Try.func72 rfl rfl rfl rfl ?_
  intro w0 e0 Z0 X hX n
  refine vc_seq ?_
  refine vc_region ?_
  refine run_box rfl trivial rfl rfl rfl rfl rfl rfl (by intro _ _ h; cases h) ?_
  refine oq1 ?_
  refine run_nil ?_
  refine vc_seq ?_
  refine vc_region ?_
  refine oq1 ?_
  refine oq1 ?_
  refine run_call (contGg_c l hp) [] rfl rfl rfl trivial rfl rfl rfl rfl (.cons rfl (.refl _) rfl rfl .nil) rfl rfl rfl rfl rfl ?_
  refine oq1 ?_
  refine oq1 ?_
  refine run_nil ?_
  refine vc_ret ?_
  refine ret_pure rfl trivial rfl (AVle.of_eq ?_)
  refine aBool_eq ?_
  rw [idxN_all default test l l.length 0 (by omega)]; simp

end Go.Proofs.Ytnkgdapdccpjmaa

/- What is valid. -/
namespace Go.Proofs.Ytnkgdapdccpjmaa
open Go Go.RowKit Go.Sx

def few (k : Csk) : Bool := decide (k.marks.length ≤ 5)
def Clr.move (c : Clr) (m : Mov) : Bool := within m.src (-1) (c.casks.length - 1) && within m.dst (-1) (c.casks.length - 1) && !decide (m.src = m.dst) && m.q.of 1 1000 && decide (m.q.hi - m.q.lo ≤ 8)
def Clr.gauge (c : Clr) (g : Gg) : Bool := within g.cask 0 (c.casks.length - 1) && within g.after 0 c.moves.length && g.dip.of 0 (c.cask g.cask).top.dip

theorem few_c (k : Csk) : CallC Try.prog 88 0 (lkF [] fun _ => none) [aCsk k] 0 (lkF [] fun _ => none) (aBool (few k)) := by
  refine callC_intro tabOk mixed Try.func88 rfl rfl rfl rfl ?_
  intro w0 e0 Z0 X hX n
  refine vc_seq ?_
  refine vc_region ?_
  refine run_box rfl trivial rfl rfl rfl rfl rfl rfl (by intro _ _ h; cases h) ?_
  refine oq1 ?_
  refine run_nil ?_
  refine vc_seq ?_
  refine vc_region ?_
  refine oq5 ?_
  refine oq2 ?_
  refine oq1 ?_
  refine oq6 ?_
  refine oq1 ?_
  refine run_nil ?_
  refine vc_ret ?_
  refine ret_pure rfl trivial rfl (AVle.of_eq ?_)
  refine aBool_eq ?_
  exact decide_eq_decide.2 (by omega)

theorem move_c (c : Clr) (m : Mov) : CallC Try.prog 86 0 (lkF [] fun _ => none) [aClr c, aMov m] 0 (lkF [] fun _ => none) (aBool (c.move m)) := by
  refine callC_intro tabOk mixed Try.func86 rfl rfl rfl rfl ?_
  intro w0 e0 Z0 X hX n
  refine vc_fact 0 clr_len fun hlen => ?_
  refine vc_seq ?_
  refine vc_region ?_
  refine run_box rfl trivial rfl rfl rfl rfl rfl rfl (by intro _ _ h; cases h) ?_
  refine run_box rfl trivial rfl rfl rfl rfl rfl rfl (by intro _ _ h; cases h) ?_
  refine oq1 ?_
  refine run_nil ?_
  refine vc_seq ?_
  refine vc_region ?_
  refine oq5 ?_
  refine oq2 ?_
  refine oq1 ?_
  refine oq4 ?_
  refine oq1 ?_
  refine run_nil ?_
  refine vc_seq ?_
  refine vc_region ?_
  refine oq5 ?_
  refine oq2 ?_
  refine oq1 ?_
  refine run_callP (within_c _ _ _) rfl rfl rfl trivial rfl rfl rfl rfl ?_
  refine oq1 ?_
  refine run_split 14 rfl (fun h1 => ?_) (fun h1 => ?_)
  ·
    try simp only [Int.toNat_natCast] at h1
    refine oq5 ?_
    refine oq2 ?_
    refine oq1 ?_
    refine run_callP (within_c _ _ _) rfl rfl rfl rfl rfl rfl rfl rfl ?_
    refine oq1 ?_
    refine oq1 ?_
    refine run_split 20 rfl (fun h2 => ?_) (fun h2 => ?_)
    ·
      try simp only [Int.toNat_natCast] at h2
      refine oq5 ?_
      refine oq2 ?_
      refine oq5 ?_
      refine oq2 ?_
      refine oq6 ?_
      refine oq1 ?_
      refine oq1 ?_
      refine run_splitN 27 rfl (fun h3 => ?_) (fun h3 => ?_)
      ·
        try simp only [Int.toNat_natCast] at h3
        refine oq5 ?_
        refine oq2 ?_
        refine run_callP (of_c _ _ _) rfl rfl rfl rfl rfl rfl rfl rfl ?_
        refine oq1 ?_
        refine oq1 ?_
        refine run_split 32 rfl (fun h4 => ?_) (fun h4 => ?_)
        ·
          try simp only [Int.toNat_natCast] at h4
          refine oq5 ?_
          refine oq5 ?_
          refine oq2 ?_
          refine oq5 ?_
          refine oq5 ?_
          refine oq2 ?_
          refine run_q rfl rfl rfl rfl rfl (arc2 (by simp only [within, Rng.of, Bool.and_eq_true, decide_eq_true_eq] at *; omega) (by simp only [within, Rng.of, Bool.and_eq_true, decide_eq_true_eq] at *; omega)) ?_
          refine oq6 ?_
          refine oq1 ?_
          refine oq1 ?_
          refine run_nil ?_
          refine vc_ret ?_
          refine ret_pure rfl trivial rfl (AVle.of_eq ?_)
          refine aBool_eq ?_
          simp_all [Clr.move]
        ·
          try simp only [Int.toNat_natCast] at h4
          refine osk ?_
          refine osk ?_
          refine osk ?_
          refine osk ?_
          refine osk ?_
          refine osk ?_
          refine osk ?_
          refine osk ?_
          refine oq1 ?_
          refine oq1 ?_
          refine run_nil ?_
          refine vc_ret ?_
          refine ret_pure rfl trivial rfl (AVle.of_eq ?_)
          refine aBool_eq ?_
          simp_all [Clr.move]
      ·
        try simp only [Int.toNat_natCast] at h3
        refine osk ?_
        refine osk ?_
        refine osk ?_
        refine oq1 ?_
        refine oq1 ?_
        refine osk ?_
        refine osk ?_
        refine osk ?_
        refine osk ?_
        refine osk ?_
        refine osk ?_
        refine osk ?_
        refine osk ?_
        refine oq1 ?_
        refine oq1 ?_
        refine run_nil ?_
        refine vc_ret ?_
        refine ret_pure rfl trivial rfl (AVle.of_eq ?_)
        refine aBool_eq ?_
        simp_all [Clr.move]
    ·
      try simp only [Int.toNat_natCast] at h2
      refine osk ?_
      refine osk ?_
      refine osk ?_
      refine osk ?_
      refine osk ?_
      refine oq1 ?_
      refine oq1 ?_
      refine osk ?_
      refine osk ?_
      refine osk ?_
      refine oq1 ?_
      refine oq1 ?_
      refine osk ?_
      refine osk ?_
      refine osk ?_
      refine osk ?_
      refine osk ?_
      refine osk ?_
      refine osk ?_
      refine osk ?_
      refine oq1 ?_
      refine oq1 ?_
      refine run_nil ?_
      refine vc_ret ?_
      refine ret_pure rfl trivial rfl (AVle.of_eq ?_)
      refine aBool_eq ?_
      simp_all [Clr.move]
  ·
    try simp only [Int.toNat_natCast] at h1
    refine osk ?_
    refine osk ?_
    refine osk ?_
    refine osk ?_
    refine oq1 ?_
    refine oq1 ?_
    refine osk ?_
    refine osk ?_
    refine osk ?_
    refine osk ?_
    refine osk ?_
    refine oq1 ?_
    refine oq1 ?_
    refine osk ?_
    refine osk ?_
    refine osk ?_
    refine oq1 ?_
    refine oq1 ?_
    refine osk ?_
    refine osk ?_
    refine osk ?_
    refine osk ?_
    refine osk ?_
    refine osk ?_
    refine osk ?_
    refine osk ?_
    refine oq1 ?_
    refine oq1 ?_
    refine run_nil ?_
    refine vc_ret ?_
    refine ret_pure rfl trivial rfl (AVle.of_eq ?_)
    refine aBool_eq ?_
    simp_all [Clr.move]

theorem gauge_c (c : Clr) (g : Gg) (hv : ∀ k ∈ c.casks, 0 < k.marks.length) : CallC Try.prog 87 0 (lkF [] fun _ => none) [aClr c, aGg g] 0 (lkF [] fun _ => none) (aBool (c.gauge g)) := by
  refine callC_intro tabOk mixed Try.func87 rfl rfl rfl rfl ?_
  intro w0 e0 Z0 X hX n
  refine vc_fact 0 clr_len fun hlen => ?_
  refine vc_seq ?_
  refine vc_region ?_
  refine run_box rfl trivial rfl rfl rfl rfl rfl rfl (by intro _ _ h; cases h) ?_
  refine run_box rfl trivial rfl rfl rfl rfl rfl rfl (by intro _ _ h; cases h) ?_
  refine oq1 ?_
  refine run_nil ?_
  refine vc_seq ?_
  refine vc_regionD rfl ?_
  refine oq5 ?_
  refine oq2 ?_
  refine oq5 ?_
  refine oq2 ?_
  refine oq1 ?_
  refine oq4 ?_
  refine run_callP (within_c _ _ _) rfl rfl rfl trivial rfl rfl rfl rfl ?_
  refine oq1 ?_
  refine run_split 12 rfl (fun h1 => ?_) (fun h1 => ?_)
  ·
    try simp only [Int.toNat_natCast] at h1
    refine oq5 ?_
    refine oq2 ?_
    refine oq5 ?_
    refine oq2 ?_
    refine oq1 ?_
    refine run_callP (within_c _ _ _) rfl rfl rfl rfl rfl rfl rfl rfl ?_
    refine oq1 ?_
    refine oq1 ?_
    refine run_split 20 rfl (fun h2 => ?_) (fun h2 => ?_)
    ·
      try simp only [Int.toNat_natCast] at h2
      refine oq5 ?_
      refine oq2 ?_
      refine oq5 ?_
      refine oq2 ?_
      refine oq5 ?_
      refine oq2 ?_
      refine run_q rfl rfl rfl rfl rfl ⟨rfl, by simp only [within, Rng.of, Bool.and_eq_true, decide_eq_true_eq] at *; omega, by simp only [within, Rng.of, Bool.and_eq_true, decide_eq_true_eq] at *; omega⟩ ?_
      refine oq2 ?_
      refine run_callP (top_c (c.cask g.cask) (hv _ (Clr.cask_mem (by simp only [within, Rng.of, Bool.and_eq_true, decide_eq_true_eq] at *; omega) (by simp only [within, Rng.of, Bool.and_eq_true, decide_eq_true_eq] at *; omega)))) rfl rfl rfl rfl rfl rfl rfl rfl ?_
      refine run_q rfl rfl rfl rfl rfl (Nat.le_of_ble_eq_true rfl) ?_
      refine run_callP (of_c _ _ _) rfl rfl rfl rfl rfl rfl rfl rfl ?_
      refine oq1 ?_
      refine oq1 ?_
      refine run_nil ⟨rfl, ?_⟩
      refine vc_ret ?_
      refine ret_pure rfl trivial rfl (AVle.of_eq ?_)
      refine aBool_eq ?_
      simp_all [Clr.gauge]
    ·
      try simp only [Int.toNat_natCast] at h2
      refine osk ?_
      refine osk ?_
      refine osk ?_
      refine osk ?_
      refine osk ?_
      refine osk ?_
      refine osk ?_
      refine osk ?_
      refine osk ?_
      refine osk ?_
      refine osk ?_
      refine oq1 ?_
      refine oq1 ?_
      refine run_nil ⟨rfl, ?_⟩
      refine vc_ret ?_
      refine ret_pure rfl trivial rfl (AVle.of_eq ?_)
      refine aBool_eq ?_
      simp_all [Clr.gauge]
  ·
    try simp only [Int.toNat_natCast] at h1
    refine osk ?_
    refine osk ?_
    refine osk ?_
    refine osk ?_
    refine osk ?_
    refine osk ?_
    refine oq1 ?_
    refine oq1 ?_
    refine osk ?_
    refine osk ?_
    refine osk ?_
    refine osk ?_
    refine osk ?_
    refine osk ?_
    refine osk ?_
    refine osk ?_
    refine osk ?_
    refine osk ?_
    refine osk ?_
    refine oq1 ?_
    refine oq1 ?_
    refine run_nil ⟨rfl, ?_⟩
    refine vc_ret ?_
    refine ret_pure rfl trivial rfl (AVle.of_eq ?_)
    refine aBool_eq ?_
    simp_all [Clr.gauge]

end Go.Proofs.Ytnkgdapdccpjmaa

/- Marks and casks that are valid. -/
namespace Go.Proofs.Ytnkgdapdccpjmaa
open Go Go.RowKit Go.Sx

def Mk.next (a x : Mk) : Bool := within x.dip (a.dip + 1) 100 && within x.content (a.content + 1) 1000
def Mk.Ok (a : Mk) : Prop := 0 ≤ a.dip ∧ a.dip ≤ 100 ∧ 0 ≤ a.content ∧ a.content ≤ 1000
theorem Mk.next_ok {a x : Mk} (h : a.Ok) (hn : a.next x = true) : x.Ok := by
  simp only [Mk.next, within, Bool.and_eq_true, decide_eq_true_eq, Mk.Ok] at *; omega
/-- Where marks first do not rise. -/
def riseI (a : Mk) (l : List Mk) (i : Nat) : Int := if i < l.length then (if a.next (l.getD i default) = false then i else riseI (l.getD i default) l (i + 1)) else -1
termination_by l.length - i
def Csk.marked (k : Csk) : Bool := !decide (k.marks.length < 2) && (decide ((k.marks.getD 0 default).dip = 0) && decide ((k.marks.getD 0 default).content = 0)) && !decide (0 ≤ riseI ⟨0, 0⟩ (k.marks.drop 1) 0)

theorem marked1_c (a x : Mk) (h : a.Ok) : CallC Try.prog 116 1 (lkF [(0, some (.cells 106 [.f (i64 a.dip), .f (i64 a.content)]))] fun _ => none) [aMk x, .s (.c (.ptr 0 0))] 1 (lkF [(0, some (.cells 106 [.f (i64 x.dip), .f (i64 x.content)]))] fun _ => none) (aBool (a.next x)) := by
  refine callC_intro tabOk mixed Try.func116 rfl rfl rfl rfl ?_
  intro w0 e0 Z0 X hX n
  obtain ⟨ha, hb, hc, hd⟩ := h
  refine vc_seq ?_
  refine vc_region ?_
  refine run_box rfl trivial rfl rfl rfl rfl rfl rfl (by intro _ _ h; cases h) ?_
  refine oq1 ?_
  refine run_nil ?_
  refine vc_seq ?_
  refine vc_region ?_
  refine oq5 ?_
  refine oq2 ?_
  refine oq5 ?_
  refine oq2 ?_
  refine oq4 ?_
  refine run_callP (within_c _ _ _) rfl rfl rfl trivial rfl rfl rfl rfl ?_
  refine oq1 ?_
  refine run_split 11 rfl (fun h1 => ?_) (fun h1 => ?_)
  ·
    try simp only [Int.toNat_natCast] at h1
    refine oq5 ?_
    refine oq2 ?_
    refine oq5 ?_
    refine oq2 ?_
    refine oq4 ?_
    refine run_callP (within_c _ _ _) rfl rfl rfl rfl rfl rfl rfl rfl ?_
    refine oq1 ?_
    refine oq1 ?_
    refine run_nil ?_
    refine vc_seq ?_
    refine vc_region ?_
    refine oq2 ?_
    refine Sx.run_store rfl trivial rfl rfl rfl rfl rfl rfl rfl ?_
    refine run_nil ?_
    refine vc_seq ?_
    refine vc_region ?_
    refine oq1 ?_
    refine oq1 ?_
    refine run_nil ?_
    refine vc_ret ?_
    refine ⟨[], _, _, rfl, trivial, AVle.of_eq ?_, rfl, .cons rfl (.refl _) rfl rfl (.nil), rfl, fun i hi => rfl⟩
    refine aBool_eq ?_
    simp_all [Mk.next]
  ·
    try simp only [Int.toNat_natCast] at h1
    refine osk ?_
    refine osk ?_
    refine osk ?_
    refine osk ?_
    refine osk ?_
    refine osk ?_
    refine oq1 ?_
    refine oq1 ?_
    refine run_nil ?_
    refine vc_seq ?_
    refine vc_region ?_
    refine oq2 ?_
    refine Sx.run_store rfl trivial rfl rfl rfl rfl rfl rfl rfl ?_
    refine run_nil ?_
    refine vc_seq ?_
    refine vc_region ?_
    refine oq1 ?_
    refine oq1 ?_
    refine run_nil ?_
    refine vc_ret ?_
    refine ⟨[], _, _, rfl, trivial, AVle.of_eq ?_, rfl, .cons rfl (.refl _) rfl rfl (.nil), rfl, fun i hi => rfl⟩
    refine aBool_eq ?_
    simp_all [Mk.next]

theorem all1Mk_c (a x : Mk) (h : a.Ok) : CallC Try.prog 119 2 (lkF [(0, some (.cells 181 [.fn 116 [] [1]])), (1, some (.cells 106 [.f (i64 a.dip), .f (i64 a.content)]))] fun _ => none) [aMk x, .s (.c (.ptr 0 0))] 2 (lkF [(0, some (.cells 181 [.fn 116 [] [1]])), (1, some (.cells 106 [.f (i64 x.dip), .f (i64 x.content)]))] fun _ => none) (aBool (!a.next x)) := by
  refine callC_intro tabOk mixed Try.func119 rfl rfl rfl rfl ?_
  intro w0 e0 Z0 X hX n
  refine vc_seq ?_
  refine vc_region ?_
  refine run_box rfl trivial rfl rfl rfl rfl rfl rfl (by intro _ _ h; cases h) ?_
  refine oq1 ?_
  refine run_nil ?_
  refine vc_seq ?_
  refine vc_region ?_
  refine oq2 ?_
  refine oq2 ?_
  refine run_call (marked1_c a x h) [(0, 1)] rfl rfl rfl trivial rfl rfl rfl rfl (.cons rfl (.refl _) rfl rfl .nil) rfl rfl rfl rfl rfl ?_
  refine oq1 ?_
  refine oq1 ?_
  refine run_nil ?_
  refine vc_ret ?_
  refine ⟨[], _, _, rfl, trivial, AVle.of_eq ?_, rfl, .cons rfl (.refl _) rfl rfl (.cons rfl (.refl _) rfl rfl (.nil)), rfl, fun i hi => rfl⟩
  rfl

theorem idxMk_c (a : Mk) (l : List Mk) (h : a.Ok) : CallC Try.prog 120 2 (lkF [(0, some (.cells 181 [.fn 116 [] [1]])), (1, some (.cells 106 [.f (i64 a.dip), .f (i64 a.content)]))] fun _ => none) [.s (.c (.f (mks l))), .s (.c (.fn 119 [] [0]))] 2 (lkF [(0, none), (1, none)] fun _ => none) (aInt .i64 (riseI a l 0)) := by
  refine callC_intro tabOk mixed Try.func120 rfl rfl rfl rfl ?_
  intro w0 e0 Z0 X hX n
  refine vc_len 0 rfl fun hlen => ?_
  refine vc_seq ?_
  refine vc_region ?_
  refine oq1 ?_
  refine run_nil ?_
  refine vc_seq ?_
  refine vc_seq ?_
  refine vc_region ?_
  refine oq1 ?_
  refine oq1 ?_
  refine oq1 ?_
  refine run_nil ?_
  refine vc_block ?_
  refine vc_loop (κ := Nat × Mk) (fun p => p.1 ≤ l.length ∧ p.2.Ok ∧ riseI p.2 l p.1 = riseI a l 0) (fun p => ⟨[(0, .s (.c (.f (mks l)))), (1, .s (.c (.fn 119 [] [0]))), (7, aInt .i64 l.length), (8, aInt .i64 (p.1 : Int))], [(0, some (.cells 181 [.fn 116 [] [1]])), (1, some (.cells 106 [.f (i64 p.2.dip), .f (i64 p.2.content)]))], fun _ => none, 2⟩) (fun p => l.length - p.1) (0, a) ⟨Nat.zero_le _, h, rfl⟩ ?_ ?_
  ·
    exact ent_ren [] (.cons (.refl _) rfl (.cons (.refl _) rfl (.cons (.refl _) rfl (.cons (.refl _) rfl (.nil))))) (.cons rfl (.refl _) rfl rfl (.cons rfl (.refl _) rfl rfl (.nil))) rfl rfl (fun i hi => ⟨rfl, Nat.lt_of_lt_of_le hi (Nat.le_of_ble_eq_true rfl)⟩)
  rintro ⟨i, b⟩ ⟨hi, hb, hx⟩
  dsimp only at hi hb hx ⊢
  refine vc_seq ?_
  refine vc_region ?_
  refine oq6 ?_
  refine run_nil ?_
  refine vc_seq ?_
  refine vc_condP rfl (fun h1 => ?_) (fun h1 => ?_)
  ·
    try simp only [Int.toNat_natCast] at h1
    refine vc_skip ?_
    refine vc_seq ?_
    refine vc_block ?_
    refine vc_seq ?_
    refine vc_region ?_
    refine oq1 ?_
    refine oq1 ?_
    refine run_nil ?_
    refine vc_seq ?_
    refine vc_region ?_
    refine oq1 ?_
    refine oq1 ?_
    refine oq1 ?_
    refine oq3 ?_
    refine oq2 ?_
    refine run_call (all1Mk_c b (l.getD i default) hb) [] rfl rfl rfl trivial rfl rfl rfl rfl (.cons rfl (.refl _) rfl rfl (.cons rfl (.refl _) rfl rfl .nil)) rfl rfl rfl rfl rfl ?_
    refine run_nil ?_
    refine vc_cond rfl (fun h2 => ?_) (fun h2 => ?_)
    ·
      try simp only [Int.toNat_natCast] at h2
      refine vc_seq ?_
      refine vc_region ?_
      refine oq1 ?_
      refine oq1 ?_
      refine run_nil ?_
      refine vc_ret ?_
      refine ⟨[], _, _, rfl, trivial, AVle.of_eq ?_, rfl, .no (.no .nil), rfl, fun i hi => rfl⟩
      refine aInt_eq ?_
      rw [← hx, riseI]
      first
        | (rw [if_pos (by omega), if_pos (by simpa using h2)])
        | (rw [if_neg (by omega)])
    ·
      try simp only [Int.toNat_natCast] at h2
      refine vc_skip ?_
      refine vc_region ?_
      refine oq4 ?_
      refine oq1 ?_
      refine run_nil ?_
      have hbn : b.next (l.getD i default) = true := by simpa using h2
      refine ⟨(i + 1, l.getD i default), ⟨by omega, b.next_ok hb hbn, ?_⟩, by dsimp only; omega, ent_ren [] (.cons (.refl _) rfl (.cons (.refl _) rfl (.cons (.refl _) rfl (.cons (.refl _) rfl (.nil))))) (.cons rfl (.refl _) rfl rfl (.cons rfl (.refl _) rfl rfl (.nil))) rfl rfl (fun i hi => ⟨rfl, Nat.lt_of_lt_of_le hi (Nat.le_of_ble_eq_true rfl)⟩)⟩
      rw [← hx, riseI.eq_def b l i, if_pos (by omega), if_neg (by rw [hbn]; simp)]
  ·
    try simp only [Int.toNat_natCast] at h1
    refine vc_exit ?_
    refine vc_seq ?_
    refine vc_region ?_
    refine oq1 ?_
    refine run_nil ?_
    refine vc_ret ?_
    refine ⟨[], _, _, rfl, trivial, AVle.of_eq ?_, rfl, .no (.no .nil), rfl, fun i hi => rfl⟩
    refine aInt_eq ?_
    rw [← hx, riseI]
    first
      | (rw [if_pos (by omega), if_pos (by simpa using h2)])
      | (rw [if_neg (by omega)])

theorem contMk_c (a : Mk) (l : List Mk) (h : a.Ok) : CallC Try.prog 118 2 (lkF [(0, some (.cells 181 [.fn 116 [] [1]])), (1, some (.cells 106 [.f (i64 a.dip), .f (i64 a.content)]))] fun _ => none) [.s (.c (.f (mks l))), .s (.c (.fn 119 [] [0]))] 2 (lkF [(0, none), (1, none)] fun _ => none) (aBool (decide (0 ≤ riseI a l 0))) := by
  refine callC_intro tabOk mixed Try.func118 rfl rfl rfl rfl ?_
  intro w0 e0 Z0 X hX n
  refine vc_seq ?_
  refine vc_region ?_
  refine oq1 ?_
  refine run_nil ?_
  refine vc_seq ?_
  refine vc_region ?_
  refine oq1 ?_
  refine oq1 ?_
  refine run_call (idxMk_c a l h) [] rfl rfl rfl trivial rfl rfl rfl rfl (.cons rfl (.refl _) rfl rfl (.cons rfl (.refl _) rfl rfl .nil)) rfl rfl rfl rfl rfl ?_
  refine oq6 ?_
  refine oq1 ?_
  refine run_nil ?_
  refine vc_ret ?_
  refine ⟨[], _, _, rfl, trivial, AVle.of_eq ?_, rfl, .no (.no .nil), rfl, fun i hi => rfl⟩
  rfl

theorem allMk_c (a : Mk) (l : List Mk) (h : a.Ok) : CallC Try.prog 115 1 (lkF [(0, some (.cells 106 [.f (i64 a.dip), .f (i64 a.content)]))] fun _ => none) [.s (.c (.f (mks l))), .s (.c (.fn 116 [] [0]))] 1 (lkF [(0, none)] fun _ => none) (aBool (!decide (0 ≤ riseI a l 0))) := by
  refine callC_intro tabOk mixed Try.func115 rfl rfl rfl rfl ?_
  intro w0 e0 Z0 X hX n
  refine vc_seq ?_
  refine vc_region ?_
  refine run_box rfl trivial rfl rfl rfl rfl rfl rfl (by intro _ _ h; cases h) ?_
  refine oq1 ?_
  refine run_nil ?_
  refine vc_seq ?_
  refine vc_region ?_
  refine oq1 ?_
  refine oq1 ?_
  refine run_call (contMk_c a l h) [(0, 1), (1, 0)] rfl rfl rfl trivial rfl rfl rfl rfl (.cons rfl (.refl _) rfl rfl (.cons rfl (.refl _) rfl rfl .nil)) rfl rfl rfl rfl rfl ?_
  refine oq1 ?_
  refine oq1 ?_
  refine run_nil ?_
  refine vc_ret ?_
  refine ⟨[], _, _, rfl, trivial, AVle.of_eq ?_, rfl, .no .nil, rfl, fun i hi => rfl⟩
  rfl

theorem marked_c (k : Csk) : CallC Try.prog 108 0 (lkF [] fun _ => none) [aCsk k] 0 (lkF [] fun _ => none) (aBool k.marked) := by
  refine callC_intro tabOk mixed Try.func108 rfl rfl rfl rfl ?_
  intro w0 e0 Z0 X hX n
  refine vc_fact 0 csk_len fun hlen => ?_
  refine vc_seq ?_
  refine vc_region ?_
  refine run_box rfl trivial rfl rfl rfl rfl rfl rfl (by intro _ _ h; cases h) ?_
  refine oq1 ?_
  refine run_nil ?_
  refine vc_seq ?_
  refine vc_seq ?_
  refine vc_region ?_
  refine oq5 ?_
  refine oq2 ?_
  refine oq1 ?_
  refine oq6 ?_
  refine oq1 ?_
  refine run_splitP 8 rfl (fun h1 => ?_) (fun h1 => ?_)
  ·
    try simp only [Int.toNat_natCast] at h1
    refine osk ?_
    refine osk ?_
    refine osk ?_
    refine osk ?_
    refine osk ?_
    refine osk ?_
    refine oq1 ?_
    refine run_nil ?_
    refine vc_cond rfl (fun _ => ?_) (fun h => Bool.noConfusion h)
    refine vc_seq ?_
    refine vc_region ?_
    refine oq1 ?_
    refine run_nil ?_
    refine vc_ret ?_
    refine ret_pure rfl trivial rfl (AVle.of_eq ?_)
    refine aBool_eq ?_
    unfold Csk.marked
    first
      | (rw [decide_eq_true (show k.marks.length < 2 by omega)]; rfl)
      | (rw [decide_eq_false (show ¬ k.marks.length < 2 by omega)]; simp only [cond_true, Bool.and_true, Bool.not_eq_true', Bool.not_eq_false'] at h2; rw [show (Int.toNat 0) = 0 from rfl] at h2; rw [h2]; simp)
  ·
    try simp only [Int.toNat_natCast] at h1
    refine oq5 ?_
    refine oq2 ?_
    refine oq3 ?_
    refine oq2 ?_
    refine oq1 ?_
    refine run_eqS true tabEq rfl rfl rfl rfl rfl rfl rfl rfl rfl ?_
    refine oq1 ?_
    refine run_nil ?_
    refine vc_cond rfl (fun h2 => ?_) (fun h2 => ?_)
    ·
      try simp only [Int.toNat_natCast] at h2
      refine vc_seq ?_
      refine vc_region ?_
      refine oq1 ?_
      refine run_nil ?_
      refine vc_ret ?_
      refine ret_pure rfl trivial rfl (AVle.of_eq ?_)
      refine aBool_eq ?_
      unfold Csk.marked
      first
        | (rw [decide_eq_true (show k.marks.length < 2 by omega)]; rfl)
        | (rw [decide_eq_false (show ¬ k.marks.length < 2 by omega)]; simp only [cond_true, Bool.and_true, Bool.not_eq_true', Bool.not_eq_false'] at h2; rw [show (Int.toNat 0) = 0 from rfl] at h2; rw [h2]; simp)
    ·
      try simp only [Int.toNat_natCast] at h2
      refine vc_skip ?_
      refine vc_seq ?_
      refine vc_region ?_
      refine run_alloc rfl trivial rfl rfl rfl rfl (by intro _ _ h; cases h) ?_
      refine run_nil ?_
      refine vc_seq ?_
      refine vc_region ?_
      refine oq5 ?_
      refine oq2 ?_
      refine run_qW (.s (.c (.f (mks (k.marks.drop 1))))) rfl trivial rfl rfl rfl ⟨⟨rfl, fun h => Bool.noConfusion h⟩, by (try simp only [Option.getD_some, Option.getD_none]); omega, by (try simp only [Option.getD_some, Option.getD_none]); omega, by (try simp only [Option.getD_some, Option.getD_none]); omega, by (try simp only [Option.getD_some, Option.getD_none]); omega⟩ (.f (encL_drop k.marks 1 (by simp))) ?_
      refine oq1 ?_
      refine run_call (allMk_c ⟨0, 0⟩ (k.marks.drop 1) (by simp [Mk.Ok])) [(0, 1)] rfl rfl rfl trivial rfl rfl rfl rfl (.cons rfl (.refl _) rfl rfl .nil) rfl rfl rfl rfl rfl ?_
      refine oq1 ?_
      refine run_nil ?_
      refine vc_ret ?_
      refine ret_pure rfl trivial rfl (AVle.of_eq ?_)
      refine aBool_eq ?_
      unfold Csk.marked
      first
        | (rw [decide_eq_true (show k.marks.length < 2 by omega)]; rfl)
        | (rw [decide_eq_false (show ¬ k.marks.length < 2 by omega)]; simp only [cond_true, Bool.and_true, Bool.not_eq_true', Bool.not_eq_false'] at h2; rw [show (Int.toNat 0) = 0 from rfl] at h2; rw [h2]; simp)

end Go.Proofs.Ytnkgdapdccpjmaa

/- The error of a cellar. -/
namespace Go.Proofs.Ytnkgdapdccpjmaa
open Go Go.RowKit Go.Sx

theorem Csk.marked_pos {k : Csk} (h : k.marked = true) : 0 < k.marks.length := by
  simp only [Csk.marked, Bool.and_eq_true, Bool.not_eq_true', decide_eq_false_iff_not] at h
  omega
def Csk.valid (k : Csk) : Bool := k.marked && k.start.of 0 k.top.content && k.leak.of 0 4
theorem Clr.pos_of {c : Clr} (h : (!c.casks.all Csk.valid) = false) : ∀ k ∈ c.casks, 0 < k.marks.length := fun k hk => by
  have h1 := List.all_eq_true.1 (by simpa using h) k hk
  simp only [Csk.valid, Bool.and_eq_true] at h1
  exact Csk.marked_pos h1.1.1
def Clr.check (c : Clr) : Int :=
  if (decide (3 < c.casks.length) || decide (4 < c.moves.length) || decide (6 < c.gauges.length) || !c.casks.all few) = true then 3
  else if (decide (c.casks.length = 0) || !c.casks.all Csk.valid || !c.moves.all c.move || !c.gauges.all c.gauge) = true then 1 else 0

theorem valid_c (k : Csk) : CallC Try.prog 90 0 (lkF [] fun _ => none) [aCsk k] 0 (lkF [] fun _ => none) (aBool k.valid) := by
  refine callC_intro tabOk mixed Try.func90 rfl rfl rfl rfl ?_
  intro w0 e0 Z0 X hX n
  refine vc_seq ?_
  refine vc_region ?_
  refine run_box rfl trivial rfl rfl rfl rfl rfl rfl (by intro _ _ h; cases h) ?_
  refine oq1 ?_
  refine run_nil ?_
  refine vc_seq ?_
  refine vc_regionD rfl ?_
  refine oq2 ?_
  refine run_callP (marked_c _) rfl rfl rfl trivial rfl rfl rfl rfl ?_
  refine oq1 ?_
  refine run_split 5 rfl (fun h1 => ?_) (fun h1 => ?_)
  ·
    try simp only [Int.toNat_natCast] at h1
    refine oq5 ?_
    refine oq2 ?_
    refine oq2 ?_
    refine run_callP (top_c k (Csk.marked_pos h1)) rfl rfl rfl rfl rfl rfl rfl rfl ?_
    refine run_q rfl rfl rfl rfl rfl (Nat.le_of_ble_eq_true rfl) ?_
    refine run_callP (of_c _ _ _) rfl rfl rfl rfl rfl rfl rfl rfl ?_
    refine oq1 ?_
    refine oq1 ?_
    refine run_split 13 rfl (fun h2 => ?_) (fun h2 => ?_)
    ·
      try simp only [Int.toNat_natCast] at h2
      refine oq5 ?_
      refine oq2 ?_
      refine run_callP (of_c _ _ _) rfl rfl rfl rfl rfl rfl rfl rfl ?_
      refine oq1 ?_
      refine oq1 ?_
      refine run_nil ⟨rfl, ?_⟩
      refine vc_ret ?_
      refine ret_pure rfl trivial rfl (AVle.of_eq ?_)
      refine aBool_eq ?_
      simp_all [Csk.valid]
    ·
      try simp only [Int.toNat_natCast] at h2
      refine osk ?_
      refine osk ?_
      refine osk ?_
      refine oq1 ?_
      refine oq1 ?_
      refine run_nil ⟨rfl, ?_⟩
      refine vc_ret ?_
      refine ret_pure rfl trivial rfl (AVle.of_eq ?_)
      refine aBool_eq ?_
      simp_all [Csk.valid]
  ·
    try simp only [Int.toNat_natCast] at h1
    refine osk ?_
    refine osk ?_
    refine osk ?_
    refine osk ?_
    refine osk ?_
    refine osk ?_
    refine oq1 ?_
    refine oq1 ?_
    refine osk ?_
    refine osk ?_
    refine osk ?_
    refine oq1 ?_
    refine oq1 ?_
    refine run_nil ⟨rfl, ?_⟩
    refine vc_ret ?_
    refine ret_pure rfl trivial rfl (AVle.of_eq ?_)
    refine aBool_eq ?_
    simp_all [Csk.valid]

theorem check_c (c : Clr) : CallC Try.prog 48 0 (lkF [] fun _ => none) [aClr c] 0 (lkF [] fun _ => none) (aInt .i64 c.check) := by
  refine callC_intro tabOk mixed Try.func48 rfl rfl rfl rfl ?_
  intro w0 e0 Z0 X hX n
  refine vc_seq ?_
  refine vc_region ?_
  refine run_box rfl trivial rfl rfl rfl rfl rfl rfl (by intro _ _ h; cases h) ?_
  refine oq1 ?_
  refine run_nil ?_
  refine vc_seq ?_
  refine vc_regionD rfl ?_
  refine oq2 ?_
  refine oq1 ?_
  refine oq2 ?_
  refine oq1 ?_
  refine oq1 ?_
  refine oq1 ?_
  refine run_nil ⟨rfl, ?_⟩
  refine vc_seq ?_
  refine vc_region ?_
  refine oq1 ?_
  refine run_nil ?_
  refine vc_seq ?_
  refine vc_block ?_
  refine vc_seq ?_
  refine vc_region ?_
  refine oq5 ?_
  refine oq2 ?_
  refine oq1 ?_
  refine oq6 ?_
  refine oq1 ?_
  refine run_splitP 15 rfl (fun h1 => ?_) (fun h1 => ?_)
  ·
    try simp only [Int.toNat_natCast] at h1
    refine osk ?_
    refine osk ?_
    refine osk ?_
    refine osk ?_
    refine oq1 ?_
    refine oq1 ?_
    refine osk ?_
    refine osk ?_
    refine osk ?_
    refine osk ?_
    refine oq1 ?_
    refine oq1 ?_
    refine osk ?_
    refine osk ?_
    refine osk ?_
    refine osk ?_
    refine osk ?_
    refine oq1 ?_
    refine oq1 ?_
    refine run_nil ?_
    refine vc_cond rfl (fun _ => ?_) (fun h => Bool.noConfusion h)
    refine vc_seq ?_
    refine vc_region ?_
    refine oq1 ?_
    refine run_nil ?_
    refine vc_ret ?_
    refine ret_pure rfl trivial rfl (AVle.of_eq ?_)
    refine aInt_eq ?_
    simp only [Clr.check]
    simp_all
    try (intros; omega)
    try (rw [if_neg (by rintro (((h | h) | h) | ⟨x, hx, hf⟩) <;> first | omega | (rw [h4 x hx] at hf; cases hf)), if_neg (by rintro ((⟨x, hx, hf⟩ | ⟨x, hx, hf⟩) | ⟨x, hx, hf⟩) <;> first | (rw [h6 x hx] at hf; cases hf) | (rw [h7 x hx] at hf; cases hf) | (rw [h8 x hx] at hf; cases hf))])
  ·
    try simp only [Int.toNat_natCast] at h1
    refine oq5 ?_
    refine oq2 ?_
    refine oq1 ?_
    refine oq6 ?_
    refine oq1 ?_
    refine oq1 ?_
    refine run_splitP 21 rfl (fun h2 => ?_) (fun h2 => ?_)
    ·
      try simp only [Int.toNat_natCast] at h2
      refine osk ?_
      refine osk ?_
      refine osk ?_
      refine osk ?_
      refine oq1 ?_
      refine oq1 ?_
      refine osk ?_
      refine osk ?_
      refine osk ?_
      refine osk ?_
      refine osk ?_
      refine oq1 ?_
      refine oq1 ?_
      refine run_nil ?_
      refine vc_cond rfl (fun _ => ?_) (fun h => Bool.noConfusion h)
      refine vc_seq ?_
      refine vc_region ?_
      refine oq1 ?_
      refine run_nil ?_
      refine vc_ret ?_
      refine ret_pure rfl trivial rfl (AVle.of_eq ?_)
      refine aInt_eq ?_
      simp only [Clr.check]
      simp_all
      try (intros; omega)
      try (rw [if_neg (by rintro (((h | h) | h) | ⟨x, hx, hf⟩) <;> first | omega | (rw [h4 x hx] at hf; cases hf)), if_neg (by rintro ((⟨x, hx, hf⟩ | ⟨x, hx, hf⟩) | ⟨x, hx, hf⟩) <;> first | (rw [h6 x hx] at hf; cases hf) | (rw [h7 x hx] at hf; cases hf) | (rw [h8 x hx] at hf; cases hf))])
    ·
      try simp only [Int.toNat_natCast] at h2
      refine oq5 ?_
      refine oq2 ?_
      refine oq1 ?_
      refine oq6 ?_
      refine oq1 ?_
      refine oq1 ?_
      refine run_splitP 27 rfl (fun h3 => ?_) (fun h3 => ?_)
      ·
        try simp only [Int.toNat_natCast] at h3
        refine osk ?_
        refine osk ?_
        refine osk ?_
        refine osk ?_
        refine osk ?_
        refine oq1 ?_
        refine oq1 ?_
        refine run_nil ?_
        refine vc_cond rfl (fun _ => ?_) (fun h => Bool.noConfusion h)
        refine vc_seq ?_
        refine vc_region ?_
        refine oq1 ?_
        refine run_nil ?_
        refine vc_ret ?_
        refine ret_pure rfl trivial rfl (AVle.of_eq ?_)
        refine aInt_eq ?_
        simp only [Clr.check]
        simp_all
        try (intros; omega)
        try (rw [if_neg (by rintro (((h | h) | h) | ⟨x, hx, hf⟩) <;> first | omega | (rw [h4 x hx] at hf; cases hf)), if_neg (by rintro ((⟨x, hx, hf⟩ | ⟨x, hx, hf⟩) | ⟨x, hx, hf⟩) <;> first | (rw [h6 x hx] at hf; cases hf) | (rw [h7 x hx] at hf; cases hf) | (rw [h8 x hx] at hf; cases hf))])
      ·
        try simp only [Int.toNat_natCast] at h3
        refine oq5 ?_
        refine oq2 ?_
        refine oq1 ?_
        refine run_callP (allCsk_c (pf := 88) (first := []) (test := few) c.casks (fun x _ => few_c x)) rfl rfl rfl rfl rfl rfl rfl rfl ?_
        refine oq1 ?_
        refine oq1 ?_
        refine oq1 ?_
        refine run_nil ?_
        refine vc_cond rfl (fun h4 => ?_) (fun h4 => ?_)
        ·
          try simp only [Int.toNat_natCast] at h4
          refine vc_seq ?_
          refine vc_region ?_
          refine oq1 ?_
          refine run_nil ?_
          refine vc_ret ?_
          refine ret_pure rfl trivial rfl (AVle.of_eq ?_)
          refine aInt_eq ?_
          simp only [Clr.check]
          simp_all
          try (intros; omega)
          try (rw [if_neg (by rintro (((h | h) | h) | ⟨x, hx, hf⟩) <;> first | omega | (rw [h4 x hx] at hf; cases hf)), if_neg (by rintro ((⟨x, hx, hf⟩ | ⟨x, hx, hf⟩) | ⟨x, hx, hf⟩) <;> first | (rw [h6 x hx] at hf; cases hf) | (rw [h7 x hx] at hf; cases hf) | (rw [h8 x hx] at hf; cases hf))])
        ·
          try simp only [Int.toNat_natCast] at h4
          refine vc_seq ?_
          refine vc_region ?_
          refine oq5 ?_
          refine oq2 ?_
          refine oq1 ?_
          refine oq6 ?_
          refine oq1 ?_
          refine run_splitP 39 rfl (fun h5 => ?_) (fun h5 => ?_)
          ·
            try simp only [Int.toNat_natCast] at h5
            refine osk ?_
            refine osk ?_
            refine osk ?_
            refine osk ?_
            refine oq1 ?_
            refine oq1 ?_
            refine osk ?_
            refine osk ?_
            refine osk ?_
            refine osk ?_
            refine osk ?_
            refine oq1 ?_
            refine oq1 ?_
            refine osk ?_
            refine osk ?_
            refine osk ?_
            refine osk ?_
            refine osk ?_
            refine oq1 ?_
            refine oq1 ?_
            refine run_nil ?_
            refine vc_cond rfl (fun _ => ?_) (fun h => Bool.noConfusion h)
            refine vc_seq ?_
            refine vc_region ?_
            refine oq1 ?_
            refine run_nil ?_
            refine vc_ret ?_
            refine ret_pure rfl trivial rfl (AVle.of_eq ?_)
            refine aInt_eq ?_
            simp only [Clr.check]
            simp_all
            try (intros; omega)
            try (rw [if_neg (by rintro (((h | h) | h) | ⟨x, hx, hf⟩) <;> first | omega | (rw [h4 x hx] at hf; cases hf)), if_neg (by rintro ((⟨x, hx, hf⟩ | ⟨x, hx, hf⟩) | ⟨x, hx, hf⟩) <;> first | (rw [h6 x hx] at hf; cases hf) | (rw [h7 x hx] at hf; cases hf) | (rw [h8 x hx] at hf; cases hf))])
          ·
            try simp only [Int.toNat_natCast] at h5
            refine oq5 ?_
            refine oq2 ?_
            refine run_callP (allCsk_c (pf := 90) (first := []) (test := Csk.valid) c.casks (fun x _ => valid_c x)) rfl rfl rfl rfl rfl rfl rfl rfl ?_
            refine oq1 ?_
            refine oq1 ?_
            refine oq1 ?_
            refine run_split 45 rfl (fun h6 => ?_) (fun h6 => ?_)
            ·
              try simp only [Int.toNat_natCast] at h6
              refine osk ?_
              refine osk ?_
              refine osk ?_
              refine osk ?_
              refine osk ?_
              refine oq1 ?_
              refine oq1 ?_
              refine osk ?_
              refine osk ?_
              refine osk ?_
              refine osk ?_
              refine osk ?_
              refine oq1 ?_
              refine oq1 ?_
              refine run_nil ?_
              refine vc_cond rfl (fun _ => ?_) (fun h => Bool.noConfusion h)
              refine vc_seq ?_
              refine vc_region ?_
              refine oq1 ?_
              refine run_nil ?_
              refine vc_ret ?_
              refine ret_pure rfl trivial rfl (AVle.of_eq ?_)
              refine aInt_eq ?_
              simp only [Clr.check]
              simp_all
              try (intros; omega)
              try (rw [if_neg (by rintro (((h | h) | h) | ⟨x, hx, hf⟩) <;> first | omega | (rw [h4 x hx] at hf; cases hf)), if_neg (by rintro ((⟨x, hx, hf⟩ | ⟨x, hx, hf⟩) | ⟨x, hx, hf⟩) <;> first | (rw [h6 x hx] at hf; cases hf) | (rw [h7 x hx] at hf; cases hf) | (rw [h8 x hx] at hf; cases hf))])
            ·
              try simp only [Int.toNat_natCast] at h6
              refine oq5 ?_
              refine oq2 ?_
              refine oq1 ?_
              refine run_callP (allMov_c (pf := 86) (first := [[csks c.casks, movs c.moves, ggs c.gauges]]) (test := c.move) c.moves (fun x _ => move_c c x)) rfl rfl rfl rfl rfl rfl rfl rfl ?_
              refine oq1 ?_
              refine oq1 ?_
              refine oq1 ?_
              refine run_split 52 rfl (fun h7 => ?_) (fun h7 => ?_)
              ·
                try simp only [Int.toNat_natCast] at h7
                refine osk ?_
                refine osk ?_
                refine osk ?_
                refine osk ?_
                refine osk ?_
                refine oq1 ?_
                refine oq1 ?_
                refine run_nil ?_
                refine vc_cond rfl (fun _ => ?_) (fun h => Bool.noConfusion h)
                refine vc_seq ?_
                refine vc_region ?_
                refine oq1 ?_
                refine run_nil ?_
                refine vc_ret ?_
                refine ret_pure rfl trivial rfl (AVle.of_eq ?_)
                refine aInt_eq ?_
                simp only [Clr.check]
                simp_all
                try (intros; omega)
                try (rw [if_neg (by rintro (((h | h) | h) | ⟨x, hx, hf⟩) <;> first | omega | (rw [h4 x hx] at hf; cases hf)), if_neg (by rintro ((⟨x, hx, hf⟩ | ⟨x, hx, hf⟩) | ⟨x, hx, hf⟩) <;> first | (rw [h6 x hx] at hf; cases hf) | (rw [h7 x hx] at hf; cases hf) | (rw [h8 x hx] at hf; cases hf))])
              ·
                try simp only [Int.toNat_natCast] at h7
                refine oq5 ?_
                refine oq2 ?_
                refine oq1 ?_
                refine run_callP (allGg_c (pf := 87) (first := [[csks c.casks, movs c.moves, ggs c.gauges]]) (test := c.gauge) c.gauges (fun x _ => gauge_c c x (Clr.pos_of (by assumption)))) rfl rfl rfl rfl rfl rfl rfl rfl ?_
                refine oq1 ?_
                refine oq1 ?_
                refine oq1 ?_
                refine run_nil ?_
                refine vc_cond rfl (fun h8 => ?_) (fun h8 => ?_)
                ·
                  try simp only [Int.toNat_natCast] at h8
                  refine vc_seq ?_
                  refine vc_region ?_
                  refine oq1 ?_
                  refine run_nil ?_
                  refine vc_ret ?_
                  refine ret_pure rfl trivial rfl (AVle.of_eq ?_)
                  refine aInt_eq ?_
                  simp only [Clr.check]
                  simp_all
                  try (intros; omega)
                  try (rw [if_neg (by rintro (((h | h) | h) | ⟨x, hx, hf⟩) <;> first | omega | (rw [h4 x hx] at hf; cases hf)), if_neg (by rintro ((⟨x, hx, hf⟩ | ⟨x, hx, hf⟩) | ⟨x, hx, hf⟩) <;> first | (rw [h6 x hx] at hf; cases hf) | (rw [h7 x hx] at hf; cases hf) | (rw [h8 x hx] at hf; cases hf))])
                ·
                  try simp only [Int.toNat_natCast] at h8
                  refine vc_skip ?_
                  refine vc_seq ?_
                  refine vc_region ?_
                  refine oq1 ?_
                  refine run_nil ?_
                  refine vc_ret ?_
                  refine ret_pure rfl trivial rfl (AVle.of_eq ?_)
                  refine aInt_eq ?_
                  simp only [Clr.check]
                  simp_all
                  try (intros; omega)
                  try (rw [if_neg (by rintro (((h | h) | h) | ⟨x, hx, hf⟩) <;> first | omega | (rw [h4 x hx] at hf; cases hf)), if_neg (by rintro ((⟨x, hx, hf⟩ | ⟨x, hx, hf⟩) | ⟨x, hx, hf⟩) <;> first | (rw [h6 x hx] at hf; cases hf) | (rw [h7 x hx] at hf; cases hf) | (rw [h8 x hx] at hf; cases hf))])

end Go.Proofs.Ytnkgdapdccpjmaa

/- What a cellar without an error is. -/
namespace Go.Proofs.Ytnkgdapdccpjmaa
open Go Go.RowKit Go.Sx

theorem riseI_spec : ∀ (n : Nat) (a : Mk) (l : List Mk) (i : Nat), n = l.length - i → ¬ 0 ≤ riseI a l i → ∀ j, i ≤ j → j < l.length → (if j = i then a else l.getD (j - 1) default).next (l.getD j default) = true := by
  intro n
  induction n with
  | zero => intro a l i h _ j h1 h2; omega
  | succ n ih =>
    intro a l i h hr j h1 h2
    rw [riseI, if_pos (by omega)] at hr
    cases hn : a.next (l.getD i default) with
    | false => rw [hn, if_pos rfl] at hr; omega
    | true =>
      rw [hn, if_neg (by simp)] at hr
      by_cases hj : j = i
      · subst hj; rw [if_pos rfl]; exact hn
      · rw [if_neg hj]
        have := ih (l.getD i default) l (i + 1) (by omega) hr j (by omega) h2
        by_cases hj2 : j = i + 1
        · subst hj2; rw [if_pos rfl] at this; simpa using this
        · rw [if_neg hj2] at this; exact this

theorem marked_good {k : Csk} (h : k.marked = true) : GoodMarks k.marks := by
  simp only [Csk.marked, Bool.and_eq_true, Bool.not_eq_true', decide_eq_false_iff_not, decide_eq_true_eq] at h
  obtain ⟨⟨h1, h2, h3⟩, h4⟩ := h
  have hz : k.marks.getD 0 default = ⟨0, 0⟩ := by
    generalize k.marks.getD 0 default = m at h2 h3
    cases m; simp only at h2 h3; subst h2; subst h3; rfl
  refine ⟨by omega, hz, fun i hi => ?_⟩
  have hd : ∀ j, (k.marks.drop 1).getD j default = k.marks.getD (j + 1) default := fun j => by simp [List.getD, Nat.add_comm]
  have := riseI_spec (k.marks.drop 1).length ⟨0, 0⟩ (k.marks.drop 1) 0 (by omega) h4 i (Nat.zero_le _) (by simp; omega)
  have hp : (if i = 0 then (⟨0, 0⟩ : Mk) else (k.marks.drop 1).getD (i - 1) default) = k.marks.getD i default := by
    by_cases h0 : i = 0
    · subst h0; rw [if_pos rfl, hz]
    · rw [if_neg h0, hd, show i - 1 + 1 = i by omega]
  rw [hp, hd] at this
  simp only [Mk.next, within, Bool.and_eq_true, decide_eq_true_eq] at this
  omega

structure Csk.Good (k : Csk) : Prop where
  marks : GoodMarks k.marks
  few : k.marks.length ≤ 5
  start : 0 ≤ k.start.lo ∧ k.start.lo ≤ k.start.hi ∧ k.start.hi ≤ k.top.content
  leak : 0 ≤ k.leak.lo ∧ k.leak.lo ≤ k.leak.hi ∧ k.leak.hi ≤ 4

structure Clr.Good (c : Clr) : Prop where
  some : 1 ≤ c.casks.length
  casks : c.casks.length ≤ 3
  moves : c.moves.length ≤ 4
  gauges : c.gauges.length ≤ 6
  cask : ∀ k ∈ c.casks, k.Good
  move : ∀ m ∈ c.moves, (-1 ≤ m.src ∧ m.src < c.casks.length) ∧ (-1 ≤ m.dst ∧ m.dst < c.casks.length) ∧ m.src ≠ m.dst ∧ (1 ≤ m.q.lo ∧ m.q.lo ≤ m.q.hi ∧ m.q.hi ≤ 1000) ∧ m.q.hi - m.q.lo ≤ 8
  gauge : ∀ g ∈ c.gauges, (0 ≤ g.cask ∧ g.cask < c.casks.length) ∧ (0 ≤ g.after ∧ g.after ≤ c.moves.length) ∧ (0 ≤ g.dip.lo ∧ g.dip.lo ≤ g.dip.hi ∧ g.dip.hi ≤ (c.cask g.cask).top.dip)

theorem Clr.good {c : Clr} (h : c.check = 0) : c.Good := by
  unfold Clr.check at h
  split at h
  · cases h
  · rename_i h1
    split at h
    · cases h
    · rename_i h2
      simp only [Bool.or_eq_true, decide_eq_true_eq, Bool.not_eq_true', not_or, Bool.not_eq_false] at h1 h2
      obtain ⟨⟨⟨a1, a2⟩, a3⟩, a4⟩ := h1
      obtain ⟨⟨⟨b1, b2⟩, b3⟩, b4⟩ := h2
      refine ⟨by omega, by omega, by omega, by omega, fun k hk => ?_, fun m hm => ?_, fun g hg => ?_⟩
      · have f := List.all_eq_true.1 a4 k hk
        have v := List.all_eq_true.1 b2 k hk
        simp only [Csk.valid, Rng.of, few, Bool.and_eq_true, decide_eq_true_eq] at f v
        exact ⟨marked_good v.1.1, f, by omega, by omega⟩
      · have v := List.all_eq_true.1 b3 m hm
        simp only [Clr.move, Rng.of, within, Bool.and_eq_true, decide_eq_true_eq, Bool.not_eq_true', decide_eq_false_iff_not] at v
        exact ⟨by omega, by omega, v.1.1.2, by omega, by omega⟩
      · have v := List.all_eq_true.1 b4 g hg
        simp only [Clr.gauge, Rng.of, within, Bool.and_eq_true, decide_eq_true_eq] at v
        exact ⟨by omega, by omega, by omega⟩

end Go.Proofs.Ytnkgdapdccpjmaa

/- Content, Dip, Mean. -/
namespace Go.Proofs.Ytnkgdapdccpjmaa
open Go Go.RowKit Go.Sx

abbrev aII (a b : Int) : AV := .tup [.c (.f (i64 a)), .c (.f (i64 b))]
theorem aII_eq {p : Int × Int} {a b : Int} (h : p = (a, b)) : aII a b = AV.ren (piOf []) (aII p.1 p.2) := by subst h; rfl
def Clr.contentA (c : Clr) (i d : Int) : Int × Int :=
  if c.check = 0 then (if (within i 0 (c.casks.length - 1) && within d 0 (c.cask i).top.dip) = true then ((c.cask i).content d, 0) else (0, 2)) else (0, c.check)

theorem Content_A (c : Clr) (i d : Int) : CallC Try.prog 43 0 (lkF [] fun _ => none) [aClr c, aInt .i64 i, aInt .i64 d] 0 (lkF [] fun _ => none) (aII (c.contentA i d).1 (c.contentA i d).2) := by
  refine callC_intro tabOk mixed Try.func43 rfl rfl rfl rfl ?_
  intro w0 e0 Z0 X hX n
  refine vc_fact 0 clr_len fun hlen => ?_
  refine vc_seq ?_
  refine vc_region ?_
  refine run_box rfl trivial rfl rfl rfl rfl rfl rfl (by intro _ _ h; cases h) ?_
  refine oq1 ?_
  refine oq1 ?_
  refine run_nil ?_
  refine vc_seq ?_
  refine vc_seq ?_
  refine vc_region ?_
  refine oq2 ?_
  refine run_callP (check_c _) rfl rfl rfl trivial rfl rfl rfl rfl ?_
  refine oq1 ?_
  refine run_nil ?_
  refine vc_seq ?_
  refine vc_region ?_
  refine oq1 ?_
  refine oq6 ?_
  refine run_nil ?_
  refine vc_condN rfl (fun h1 => ?_) (fun h1 => ?_)
  ·
    try simp only [Int.toNat_natCast] at h1
    refine vc_seq ?_
    refine vc_region ?_
    refine oq1 ?_
    refine oq1 ?_
    refine oq1 ?_
    refine run_nil ?_
    refine vc_ret ?_
    refine ret_pure rfl ⟨trivial, trivial, trivial⟩ rfl (AVle.of_eq ?_)
    refine aII_eq ?_
    simp_all [Clr.contentA]
  ·
    try simp only [Int.toNat_natCast] at h1
    have hgd := Clr.good h1
    refine vc_skip ?_
    refine vc_seq ?_
    refine vc_seq ?_
    refine vc_region ?_
    refine oq1 ?_
    refine oq5 ?_
    refine oq2 ?_
    refine oq1 ?_
    refine oq4 ?_
    refine run_callP (within_c _ _ _) rfl rfl rfl trivial rfl rfl rfl rfl ?_
    refine oq1 ?_
    refine oq1 ?_
    refine run_split 21 rfl (fun h2 => ?_) (fun h2 => ?_)
    ·
      try simp only [Int.toNat_natCast] at h2
      refine osk ?_
      refine osk ?_
      refine osk ?_
      refine osk ?_
      refine osk ?_
      refine osk ?_
      refine osk ?_
      refine osk ?_
      refine osk ?_
      refine osk ?_
      refine oq1 ?_
      refine run_nil ?_
      refine vc_cond rfl (fun _ => ?_) (fun h => Bool.noConfusion h)
      refine vc_seq ?_
      refine vc_region ?_
      refine oq1 ?_
      refine oq1 ?_
      refine run_nil ?_
      refine vc_ret ?_
      refine ret_pure rfl ⟨trivial, trivial, trivial⟩ rfl (AVle.of_eq ?_)
      refine aII_eq ?_
      simp_all [Clr.contentA]
    ·
      try simp only [Int.toNat_natCast] at h2
      refine oq1 ?_
      refine oq5 ?_
      refine oq2 ?_
      refine oq1 ?_
      refine run_q rfl rfl rfl rfl rfl ⟨rfl, by simp only [within, Bool.and_eq_true, Bool.not_eq_true', Bool.not_eq_false', decide_eq_true_eq] at *; omega, by simp only [within, Bool.and_eq_true, Bool.not_eq_true', Bool.not_eq_false', decide_eq_true_eq] at *; omega⟩ ?_
      refine oq2 ?_
      refine run_callP (top_c (c.cask i) (hgd.cask _ (Clr.cask_mem (by simp only [within, Bool.and_eq_true, Bool.not_eq_true', Bool.not_eq_false', decide_eq_true_eq] at *; omega) (by simp only [within, Bool.and_eq_true, Bool.not_eq_true', Bool.not_eq_false', decide_eq_true_eq] at *; omega))).marks.pos) rfl rfl rfl rfl rfl rfl rfl rfl ?_
      refine run_q rfl rfl rfl rfl rfl (Nat.le_of_ble_eq_true rfl) ?_
      refine run_callP (within_c _ _ _) rfl rfl rfl rfl rfl rfl rfl rfl ?_
      refine oq1 ?_
      refine oq1 ?_
      refine run_nil ?_
      refine vc_cond rfl (fun h3 => ?_) (fun h3 => ?_)
      ·
        try simp only [Int.toNat_natCast] at h3
        refine vc_seq ?_
        refine vc_region ?_
        refine oq1 ?_
        refine oq1 ?_
        refine run_nil ?_
        refine vc_ret ?_
        refine ret_pure rfl ⟨trivial, trivial, trivial⟩ rfl (AVle.of_eq ?_)
        refine aII_eq ?_
        simp_all [Clr.contentA]
      ·
        try simp only [Int.toNat_natCast] at h3
        refine vc_skip ?_
        refine vc_seq ?_
        refine vc_region ?_
        refine oq5 ?_
        refine oq2 ?_
        refine oq1 ?_
        refine run_q rfl trivial rfl rfl rfl ⟨rfl, by simp only [within, Bool.and_eq_true, Bool.not_eq_true', Bool.not_eq_false', decide_eq_true_eq] at *; omega, by simp only [within, Bool.and_eq_true, Bool.not_eq_true', Bool.not_eq_false', decide_eq_true_eq] at *; omega⟩ ?_
        refine oq2 ?_
        refine oq1 ?_
        refine run_callP (content_c (c.cask i) d (hgd.cask _ (Clr.cask_mem (by simp only [within, Bool.and_eq_true, Bool.not_eq_true', Bool.not_eq_false', decide_eq_true_eq] at *; omega) (by simp only [within, Bool.and_eq_true, Bool.not_eq_true', Bool.not_eq_false', decide_eq_true_eq] at *; omega))).marks (by simp only [within, Bool.and_eq_true, Bool.not_eq_true', Bool.not_eq_false', decide_eq_true_eq] at *; omega) (by simp only [within, Bool.and_eq_true, Bool.not_eq_true', Bool.not_eq_false', decide_eq_true_eq] at *; omega)) rfl rfl rfl trivial rfl rfl rfl rfl ?_
        refine oq1 ?_
        refine oq1 ?_
        refine run_nil ?_
        refine vc_ret ?_
        refine ret_pure rfl ⟨trivial, trivial, trivial⟩ rfl (AVle.of_eq ?_)
        refine aII_eq ?_
        simp_all [Clr.contentA]

abbrev aRE (r : Rng) (e : Int) : AV := .tup [.agg [.f (i64 r.lo), .f (i64 r.hi)], .c (.f (i64 e))]
theorem aRE_eq {p : Rng × Int} {r : Rng} {a : Int} (h : p = (r, a)) : aRE r a = AV.ren (piOf []) (aRE p.1 p.2) := by subst h; rfl
def Clr.meanA (c : Clr) (i : Int) : Rng × Int := if c.check = 0 then (if within i 0 (c.gauges.length - 1) = true then (c.mean (c.gauges.getD i.toNat default), 0) else (⟨0, 0⟩, 2)) else (⟨0, 0⟩, c.check)

theorem Mean_A (c : Clr) (i : Int) : CallC Try.prog 35 0 (lkF [] fun _ => none) [aClr c, aInt .i64 i] 0 (lkF [] fun _ => none) (aRE (c.meanA i).1 (c.meanA i).2) := by
  refine callC_intro tabOk mixed Try.func35 rfl rfl rfl rfl ?_
  intro w0 e0 Z0 X hX n
  refine vc_fact 0 clr_len fun hlen => ?_
  refine vc_seq ?_
  refine vc_region ?_
  refine run_box rfl trivial rfl rfl rfl rfl rfl rfl (by intro _ _ h; cases h) ?_
  refine run_alloc rfl trivial rfl rfl rfl rfl (by intro _ _ h; cases h) ?_
  refine oq1 ?_
  refine run_nil ?_
  refine vc_seq ?_
  refine vc_seq ?_
  refine vc_region ?_
  refine oq2 ?_
  refine run_callP (check_c _) rfl rfl rfl trivial rfl rfl rfl rfl ?_
  refine oq1 ?_
  refine run_nil ?_
  refine vc_seq ?_
  refine vc_region ?_
  refine oq1 ?_
  refine oq6 ?_
  refine run_nil ?_
  refine vc_condN rfl (fun h1 => ?_) (fun h1 => ?_)
  ·
    try simp only [Int.toNat_natCast] at h1
    refine vc_seq ?_
    refine vc_region ?_
    refine oq1 ?_
    refine oq1 ?_
    refine Sx.run_store rfl trivial rfl rfl rfl rfl rfl rfl rfl ?_
    refine oq1 ?_
    refine run_nil ?_
    refine vc_ret ?_
    refine ret_pure rfl ⟨Nat.le_of_ble_eq_true rfl, trivial, trivial⟩ rfl (AVle.of_eq ?_)
    first
      | exact aRE_eq (r := ⟨0, 0⟩) (a := c.check) (by simp_all [Clr.meanA])
      | exact aRE_eq (r := ⟨0, 0⟩) (a := 2) (by simp_all [Clr.meanA])
      | exact aRE_eq (r := c.mean (c.gauges.getD i.toNat default)) (a := 0) (by simp_all [Clr.meanA])
  ·
    try simp only [Int.toNat_natCast] at h1
    have hgd := Clr.good h1
    refine vc_skip ?_
    refine vc_seq ?_
    refine vc_seq ?_
    refine vc_region ?_
    refine oq1 ?_
    refine oq5 ?_
    refine oq2 ?_
    refine oq1 ?_
    refine oq4 ?_
    refine run_callP (within_c _ _ _) rfl rfl rfl trivial rfl rfl rfl rfl ?_
    refine oq1 ?_
    refine run_nil ?_
    refine vc_cond rfl (fun h2 => ?_) (fun h2 => ?_)
    ·
      try simp only [Int.toNat_natCast] at h2
      refine vc_seq ?_
      refine vc_region ?_
      refine oq1 ?_
      refine Sx.run_store rfl trivial rfl rfl rfl rfl rfl rfl rfl ?_
      refine oq1 ?_
      refine run_nil ?_
      refine vc_ret ?_
      refine ret_pure rfl ⟨Nat.le_of_ble_eq_true rfl, trivial, trivial⟩ rfl (AVle.of_eq ?_)
      first
        | exact aRE_eq (r := ⟨0, 0⟩) (a := c.check) (by simp_all [Clr.meanA])
        | exact aRE_eq (r := ⟨0, 0⟩) (a := 2) (by simp_all [Clr.meanA])
        | exact aRE_eq (r := c.mean (c.gauges.getD i.toNat default)) (a := 0) (by simp_all [Clr.meanA])
    ·
      try simp only [Int.toNat_natCast] at h2
      refine vc_skip ?_
      refine vc_seq ?_
      refine vc_regionD rfl ?_
      have hgg := hgd.gauge (c.gauges.getD i.toNat default) (getD_mem (by have h3 : 0 ≤ i ∧ i < c.gauges.length := (by refine ⟨?_, ?_⟩ <;> (simp only [within, Bool.and_eq_true, Bool.not_eq_true', Bool.not_eq_false', decide_eq_true_eq] at *; omega)); omega))
      refine oq2 ?_
      refine oq5 ?_
      refine oq2 ?_
      refine oq1 ?_
      refine run_q rfl trivial rfl rfl rfl ⟨rfl, by simp only [within, Bool.and_eq_true, Bool.not_eq_true', Bool.not_eq_false', decide_eq_true_eq] at *; omega, by simp only [within, Bool.and_eq_true, Bool.not_eq_true', Bool.not_eq_false', decide_eq_true_eq] at *; omega⟩ ?_
      refine oq2 ?_
      refine run_callP (mean_c c (c.gauges.getD i.toNat default) hgg.1.1 hgg.1.2 (hgd.cask _ (Clr.cask_mem hgg.1.1 hgg.1.2)).marks hgg.2.2.1 hgg.2.2.2.1 hgg.2.2.2.2) rfl rfl rfl trivial rfl rfl rfl rfl ?_
      refine Sx.run_store rfl trivial rfl rfl rfl rfl rfl rfl rfl ?_
      refine oq1 ?_
      refine run_nil ⟨rfl, ?_⟩
      refine vc_ret ?_
      refine ret_pure rfl ⟨Nat.le_of_ble_eq_true rfl, trivial, trivial⟩ rfl (AVle.of_eq ?_)
      first
        | exact aRE_eq (r := ⟨0, 0⟩) (a := c.check) (by simp_all [Clr.meanA])
        | exact aRE_eq (r := ⟨0, 0⟩) (a := 2) (by simp_all [Clr.meanA])
        | exact aRE_eq (r := c.mean (c.gauges.getD i.toNat default)) (a := 0) (by simp_all [Clr.meanA])

/-- The greatest dip, from one on downwards, at which at most so much is in a cask. -/
def dipF (k : Csk) (n : Int) : Nat → Nat
  | 0 => 0
  | d + 1 => if n < k.content ((d + 1 : Nat) : Int) then dipF k n d else d + 1
theorem dipF_stop {k : Csk} {n : Int} {d : Nat} (h : ¬ n < k.content (d : Int)) : dipF k n d = d := by
  cases d with
  | zero => rfl
  | succ d => rw [dipF, if_neg h]
theorem content_zero {k : Csk} (h : GoodMarks k.marks) : k.content 0 = 0 := by
  have hs : seg k.marks 0 1 = 1 := by
    rw [seg, if_neg]
    have := h.bounds 1 (by have := h.len; omega)
    omega
  rw [Csk.content, hs, lin, h.zero]
  simp
def Clr.dipA (c : Clr) (i n : Int) : Int × Int :=
  if c.check = 0 then (if (within i 0 (c.casks.length - 1) && within n 0 (c.cask i).top.content) = true then ((dipF (c.cask i) n (c.cask i).top.dip.toNat : Nat), 0) else (0, 2)) else (0, c.check)

theorem Dip_A (c : Clr) (i m : Int) : CallC Try.prog 45 0 (lkF [] fun _ => none) [aClr c, aInt .i64 i, aInt .i64 m] 0 (lkF [] fun _ => none) (aII (c.dipA i m).1 (c.dipA i m).2) := by
  refine callC_intro tabOk mixed Try.func45 rfl rfl rfl rfl ?_
  intro w0 e0 Z0 X hX n
  refine vc_fact 0 clr_len fun hlen => ?_
  refine vc_seq ?_
  refine vc_region ?_
  refine run_box rfl trivial rfl rfl rfl rfl rfl rfl (by intro _ _ h; cases h) ?_
  refine oq1 ?_
  refine oq1 ?_
  refine run_nil ?_
  refine vc_seq ?_
  refine vc_seq ?_
  refine vc_region ?_
  refine oq2 ?_
  refine run_callP (check_c _) rfl rfl rfl trivial rfl rfl rfl rfl ?_
  refine oq1 ?_
  refine run_nil ?_
  refine vc_seq ?_
  refine vc_region ?_
  refine oq1 ?_
  refine oq6 ?_
  refine run_nil ?_
  refine vc_condN rfl (fun h1 => ?_) (fun h1 => ?_)
  ·
    try simp only [Int.toNat_natCast] at h1
    refine vc_seq ?_
    refine vc_region ?_
    refine oq1 ?_
    refine oq1 ?_
    refine oq1 ?_
    refine run_nil ?_
    refine vc_ret ?_
    refine ret_pure rfl ⟨trivial, trivial, trivial⟩ rfl (AVle.of_eq ?_)
    refine aII_eq ?_
    first
      | (simp_all [Clr.dipA]; done)
      | (rw [Clr.dipA, if_pos h1, if_pos (by simp_all), ← hx, dipF_stop h4])
  ·
    try simp only [Int.toNat_natCast] at h1
    have hgd := Clr.good h1
    refine vc_skip ?_
    refine vc_seq ?_
    refine vc_seq ?_
    refine vc_region ?_
    refine oq1 ?_
    refine oq5 ?_
    refine oq2 ?_
    refine oq1 ?_
    refine oq4 ?_
    refine run_callP (within_c _ _ _) rfl rfl rfl trivial rfl rfl rfl rfl ?_
    refine oq1 ?_
    refine oq1 ?_
    refine run_split 23 rfl (fun h2 => ?_) (fun h2 => ?_)
    ·
      try simp only [Int.toNat_natCast] at h2
      refine osk ?_
      refine osk ?_
      refine osk ?_
      refine osk ?_
      refine osk ?_
      refine osk ?_
      refine osk ?_
      refine osk ?_
      refine osk ?_
      refine osk ?_
      refine oq1 ?_
      refine run_nil ?_
      refine vc_cond rfl (fun _ => ?_) (fun h => Bool.noConfusion h)
      refine vc_seq ?_
      refine vc_region ?_
      refine oq1 ?_
      refine oq1 ?_
      refine run_nil ?_
      refine vc_ret ?_
      refine ret_pure rfl ⟨trivial, trivial, trivial⟩ rfl (AVle.of_eq ?_)
      refine aII_eq ?_
      first
        | (simp_all [Clr.dipA]; done)
        | (rw [Clr.dipA, if_pos h1, if_pos (by simp_all), ← hx, dipF_stop h4])
    ·
      try simp only [Int.toNat_natCast] at h2
      refine oq1 ?_
      refine oq5 ?_
      refine oq2 ?_
      refine oq1 ?_
      refine run_q rfl rfl rfl rfl rfl ⟨rfl, by simp only [within, Bool.and_eq_true, Bool.not_eq_true', Bool.not_eq_false', decide_eq_true_eq] at *; omega, by simp only [within, Bool.and_eq_true, Bool.not_eq_true', Bool.not_eq_false', decide_eq_true_eq] at *; omega⟩ ?_
      refine oq2 ?_
      refine run_callP (top_c (c.cask i) (hgd.cask _ (Clr.cask_mem (by simp only [within, Bool.and_eq_true, Bool.not_eq_true', Bool.not_eq_false', decide_eq_true_eq] at *; omega) (by simp only [within, Bool.and_eq_true, Bool.not_eq_true', Bool.not_eq_false', decide_eq_true_eq] at *; omega))).marks.pos) rfl rfl rfl rfl rfl rfl rfl rfl ?_
      refine run_q rfl rfl rfl rfl rfl (Nat.le_of_ble_eq_true rfl) ?_
      refine run_callP (within_c _ _ _) rfl rfl rfl rfl rfl rfl rfl rfl ?_
      refine oq1 ?_
      refine oq1 ?_
      refine run_nil ?_
      refine vc_cond rfl (fun h3 => ?_) (fun h3 => ?_)
      ·
        try simp only [Int.toNat_natCast] at h3
        refine vc_seq ?_
        refine vc_region ?_
        refine oq1 ?_
        refine oq1 ?_
        refine run_nil ?_
        refine vc_ret ?_
        refine ret_pure rfl ⟨trivial, trivial, trivial⟩ rfl (AVle.of_eq ?_)
        refine aII_eq ?_
        first
          | (simp_all [Clr.dipA]; done)
          | (rw [Clr.dipA, if_pos h1, if_pos (by simp_all), ← hx, dipF_stop h4])
      ·
        try simp only [Int.toNat_natCast] at h3
        refine vc_skip ?_
        refine vc_seq ?_
        refine vc_region ?_
        refine oq5 ?_
        refine oq2 ?_
        refine oq1 ?_
        refine run_q rfl trivial rfl rfl rfl ⟨rfl, by simp only [within, Bool.and_eq_true, Bool.not_eq_true', Bool.not_eq_false', decide_eq_true_eq] at *; omega, by simp only [within, Bool.and_eq_true, Bool.not_eq_true', Bool.not_eq_false', decide_eq_true_eq] at *; omega⟩ ?_
        refine oq2 ?_
        refine run_alloc rfl trivial rfl rfl rfl rfl (by intro _ _ h; cases h) ?_
        refine Sx.run_store rfl trivial rfl rfl rfl rfl rfl rfl rfl ?_
        refine run_nil ?_
        refine vc_seq ?_
        refine vc_region ?_
        have hk : (c.cask i).Good := hgd.cask _ (Clr.cask_mem (by simp only [within, Bool.and_eq_true, Bool.not_eq_true', Bool.not_eq_false', decide_eq_true_eq] at *; omega) (by simp only [within, Bool.and_eq_true, Bool.not_eq_true', Bool.not_eq_false', decide_eq_true_eq] at *; omega))
        have ht := hk.marks.top
        have hmm : 0 ≤ m := by simp only [within, Bool.and_eq_true, Bool.not_eq_true', Bool.not_eq_false', decide_eq_true_eq] at *; omega
        refine oq2 ?_
        refine run_callP (top_c (c.cask i) hk.marks.pos) rfl rfl rfl trivial rfl rfl rfl rfl ?_
        refine run_q rfl trivial rfl rfl rfl (Nat.le_of_ble_eq_true rfl) ?_
        refine oq1 ?_
        refine run_nil ?_
        refine vc_seq ?_
        refine vc_block ?_
        refine vc_loop (κ := Nat) (fun d => (d : Int) ≤ (c.cask i).top.dip ∧ dipF (c.cask i) m d = dipF (c.cask i) m (c.cask i).top.dip.toNat) (fun d => ⟨[(2, aInt .i64 m), (9, .s (.c (.ptr 1 0))), (10, aInt .i64 (d : Int))], [(1, some (.cells 104 [.f (mks (c.cask i).marks), .f (i64 (c.cask i).start.lo), .f (i64 (c.cask i).start.hi), .f (i64 (c.cask i).leak.lo), .f (i64 (c.cask i).leak.hi)]))], fun _ => none, 2⟩) (fun d => d) (c.cask i).top.dip.toNat ⟨by omega, rfl⟩ ?_ ?_
        ·
          exact ent_ren [] (.cons (.refl _) rfl (.cons (.refl _) rfl (.cons (.of_eq (aInt_eq (by omega))) rfl .nil))) (.cons rfl (.refl _) rfl rfl .nil) rfl rfl (fun i hi => ⟨rfl, Nat.lt_of_lt_of_le hi (Nat.le_of_ble_eq_true rfl)⟩)
        rintro d ⟨hd, hx⟩
        refine vc_seq ?_
        refine vc_seq ?_
        refine vc_region ?_
        refine oq2 ?_
        refine oq1 ?_
        refine run_callP (content_c (c.cask i) d hk.marks (by omega) hd) rfl rfl rfl trivial rfl rfl rfl rfl ?_
        refine oq1 ?_
        refine oq6 ?_
        refine run_nil ?_
        refine vc_condP rfl (fun h4 => ?_) (fun h4 => ?_)
        ·
          try simp only [Int.toNat_natCast] at h4
          refine vc_skip ?_
          refine vc_block ?_
          refine vc_region ?_
          refine oq1 ?_
          refine oq4 ?_
          refine oq1 ?_
          refine run_nil ?_
          obtain ⟨e, rfl⟩ : ∃ e, d = e + 1 := ⟨d - 1, by rcases Nat.eq_zero_or_pos d with rfl | h; (· exfalso; rw [show ((0 : Nat) : Int) = 0 from rfl, content_zero hk.marks] at h4; have := hmm; omega); (· omega)⟩
          refine ⟨e, ⟨by omega, ?_⟩, by omega, ent_ren [] (.cons (.refl _) rfl (.cons (.refl _) rfl (.cons (.of_eq (aInt_eq (by omega))) rfl .nil))) (.cons rfl (.refl _) rfl rfl .nil) rfl rfl (fun i hi => ⟨rfl, Nat.lt_of_lt_of_le hi (Nat.le_of_ble_eq_true rfl)⟩)⟩
          rw [← hx, dipF, if_pos h4]
        ·
          try simp only [Int.toNat_natCast] at h4
          refine vc_exit ?_
          refine vc_seq ?_
          refine vc_region ?_
          refine oq1 ?_
          refine oq1 ?_
          refine oq1 ?_
          refine run_nil ?_
          refine vc_ret ?_
          refine ret_pure rfl ⟨trivial, trivial, trivial⟩ rfl (AVle.of_eq ?_)
          refine aII_eq ?_
          first
            | (simp_all [Clr.dipA]; done)
            | (rw [Clr.dipA, if_pos h1, if_pos (by simp_all), ← hx, dipF_stop h4])

end Go.Proofs.Ytnkgdapdccpjmaa

