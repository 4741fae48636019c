import Derived.Test.YtieohkidmjglgaaZ3
import Derived.Test.YtieohkidmjglgaaChecked
/- What is known of each type, as simp wants it: written by ti.py. -/
namespace Go.Slot.T
open Go Go.RowKit
open Go.Proofs.Try (prog)
theorem w1 {k : TI → OR} : withTI prog 1 k = k ⟨1, 8, [Cell.raw Value.nilFunc], Sh.other⟩ := withTI_of (by kernel_rfl)
theorem m1 : mkTI prog 1 = some ⟨1, 8, [Cell.raw Value.nilFunc], Sh.other⟩ := by kernel_rfl
attribute [go_sem ↓] w1
attribute [go_sem] m1
theorem w2 {k : TI → OR} : withTI prog 2 k = k ⟨1, 8, [Cell.raw (Value.int IntKind.i64 0)], Sh.int IntKind.i64⟩ := withTI_of (by kernel_rfl)
theorem m2 : mkTI prog 2 = some ⟨1, 8, [Cell.raw (Value.int IntKind.i64 0)], Sh.int IntKind.i64⟩ := by kernel_rfl
attribute [go_sem ↓] w2
attribute [go_sem] m2
theorem w3 {k : TI → OR} : withTI prog 3 k = k ⟨1, 8, [Cell.raw (Value.int IntKind.i64 0)], Sh.int IntKind.i64⟩ := withTI_of (by kernel_rfl)
theorem m3 : mkTI prog 3 = some ⟨1, 8, [Cell.raw (Value.int IntKind.i64 0)], Sh.int IntKind.i64⟩ := by kernel_rfl
attribute [go_sem ↓] w3
attribute [go_sem] m3
theorem w4 {k : TI → OR} : withTI prog 4 k = k ⟨1, 1, [Cell.raw (Value.bool false)], Sh.bool⟩ := withTI_of (by kernel_rfl)
theorem m4 : mkTI prog 4 = some ⟨1, 1, [Cell.raw (Value.bool false)], Sh.bool⟩ := by kernel_rfl
attribute [go_sem ↓] w4
attribute [go_sem] m4
theorem w5 {k : TI → OR} : withTI prog 5 k = k ⟨1, 1, [Cell.raw (Value.int IntKind.u8 0)], Sh.int IntKind.u8⟩ := withTI_of (by kernel_rfl)
theorem m5 : mkTI prog 5 = some ⟨1, 1, [Cell.raw (Value.int IntKind.u8 0)], Sh.int IntKind.u8⟩ := by kernel_rfl
attribute [go_sem ↓] w5
attribute [go_sem] m5
theorem w6 {k : TI → OR} : withTI prog 6 k = k ⟨1, 1, [Cell.raw (Value.int IntKind.u8 0)], Sh.int IntKind.u8⟩ := withTI_of (by kernel_rfl)
theorem m6 : mkTI prog 6 = some ⟨1, 1, [Cell.raw (Value.int IntKind.u8 0)], Sh.int IntKind.u8⟩ := by kernel_rfl
attribute [go_sem ↓] w6
attribute [go_sem] m6
theorem w7 {k : TI → OR} : withTI prog 7 k = k ⟨4, 24, [Cell.raw (Value.int IntKind.i64 0), Cell.raw (Value.int IntKind.i64 0), Cell.raw (Value.bool false), Cell.raw (Value.int IntKind.u8 0)], Sh.struct [(0, 1, 2), (1, 1, 3), (2, 1, 4), (3, 1, 6)]⟩ := withTI_of (by kernel_rfl)
theorem m7 : mkTI prog 7 = some ⟨4, 24, [Cell.raw (Value.int IntKind.i64 0), Cell.raw (Value.int IntKind.i64 0), Cell.raw (Value.bool false), Cell.raw (Value.int IntKind.u8 0)], Sh.struct [(0, 1, 2), (1, 1, 3), (2, 1, 4), (3, 1, 6)]⟩ := by kernel_rfl
attribute [go_sem ↓] w7
attribute [go_sem] m7
theorem w8 {k : TI → OR} : withTI prog 8 k = k ⟨4, 24, [Cell.raw (Value.int IntKind.i64 0), Cell.raw (Value.int IntKind.i64 0), Cell.raw (Value.bool false), Cell.raw (Value.int IntKind.u8 0)], Sh.struct [(0, 1, 2), (1, 1, 3), (2, 1, 4), (3, 1, 6)]⟩ := withTI_of (by kernel_rfl)
theorem m8 : mkTI prog 8 = some ⟨4, 24, [Cell.raw (Value.int IntKind.i64 0), Cell.raw (Value.int IntKind.i64 0), Cell.raw (Value.bool false), Cell.raw (Value.int IntKind.u8 0)], Sh.struct [(0, 1, 2), (1, 1, 3), (2, 1, 4), (3, 1, 6)]⟩ := by kernel_rfl
attribute [go_sem ↓] w8
attribute [go_sem] m8
theorem w9 {k : TI → OR} : withTI prog 9 k = k ⟨1, 16, [Cell.raw (Value.string ⟨⟨[]⟩⟩)], Sh.string⟩ := withTI_of (by kernel_rfl)
theorem m9 : mkTI prog 9 = some ⟨1, 16, [Cell.raw (Value.string ⟨⟨[]⟩⟩)], Sh.string⟩ := by kernel_rfl
attribute [go_sem ↓] w9
attribute [go_sem] m9
theorem w10 {k : TI → OR} : withTI prog 10 k = k ⟨1, 16, [Cell.raw (Value.string ⟨⟨[]⟩⟩)], Sh.string⟩ := withTI_of (by kernel_rfl)
theorem m10 : mkTI prog 10 = some ⟨1, 16, [Cell.raw (Value.string ⟨⟨[]⟩⟩)], Sh.string⟩ := by kernel_rfl
attribute [go_sem ↓] w10
attribute [go_sem] m10
theorem w11 {k : TI → OR} : withTI prog 11 k = k ⟨1, 16, [Cell.raw (Value.string ⟨⟨[]⟩⟩)], Sh.string⟩ := withTI_of (by kernel_rfl)
theorem m11 : mkTI prog 11 = some ⟨1, 16, [Cell.raw (Value.string ⟨⟨[]⟩⟩)], Sh.string⟩ := by kernel_rfl
attribute [go_sem ↓] w11
attribute [go_sem] m11
theorem w12 {k : TI → OR} : withTI prog 12 k = k ⟨1, 8, [Cell.raw (Value.int IntKind.u64 0)], Sh.int IntKind.u64⟩ := withTI_of (by kernel_rfl)
theorem m12 : mkTI prog 12 = some ⟨1, 8, [Cell.raw (Value.int IntKind.u64 0)], Sh.int IntKind.u64⟩ := by kernel_rfl
attribute [go_sem ↓] w12
attribute [go_sem] m12
theorem w13 {k : TI → OR} : withTI prog 13 k = k ⟨2, 24, [Cell.raw (Value.string ⟨⟨[]⟩⟩), Cell.raw (Value.int IntKind.u64 0)], Sh.struct [(0, 1, 9), (1, 1, 12)]⟩ := withTI_of (by kernel_rfl)
theorem m13 : mkTI prog 13 = some ⟨2, 24, [Cell.raw (Value.string ⟨⟨[]⟩⟩), Cell.raw (Value.int IntKind.u64 0)], Sh.struct [(0, 1, 9), (1, 1, 12)]⟩ := by kernel_rfl
attribute [go_sem ↓] w13
attribute [go_sem] m13
theorem w14 {k : TI → OR} : withTI prog 14 k = k ⟨2, 24, [Cell.raw (Value.string ⟨⟨[]⟩⟩), Cell.raw (Value.int IntKind.u64 0)], Sh.struct [(0, 1, 9), (1, 1, 12)]⟩ := withTI_of (by kernel_rfl)
theorem m14 : mkTI prog 14 = some ⟨2, 24, [Cell.raw (Value.string ⟨⟨[]⟩⟩), Cell.raw (Value.int IntKind.u64 0)], Sh.struct [(0, 1, 9), (1, 1, 12)]⟩ := by kernel_rfl
attribute [go_sem ↓] w14
attribute [go_sem] m14
theorem w15 {k : TI → OR} : withTI prog 15 k = k ⟨1, 8, [Cell.raw (Value.pointer none)], Sh.other⟩ := withTI_of (by kernel_rfl)
theorem m15 : mkTI prog 15 = some ⟨1, 8, [Cell.raw (Value.pointer none)], Sh.other⟩ := by kernel_rfl
attribute [go_sem ↓] w15
attribute [go_sem] m15
theorem w16 {k : TI → OR} : withTI prog 16 k = k ⟨1, 8, [Cell.raw (Value.pointer none)], Sh.other⟩ := withTI_of (by kernel_rfl)
theorem m16 : mkTI prog 16 = some ⟨1, 8, [Cell.raw (Value.pointer none)], Sh.other⟩ := by kernel_rfl
attribute [go_sem ↓] w16
attribute [go_sem] m16
theorem w17 {k : TI → OR} : withTI prog 17 k = k ⟨1, 8, [Cell.raw (Value.pointer none)], Sh.other⟩ := withTI_of (by kernel_rfl)
theorem m17 : mkTI prog 17 = some ⟨1, 8, [Cell.raw (Value.pointer none)], Sh.other⟩ := by kernel_rfl
attribute [go_sem ↓] w17
attribute [go_sem] m17
theorem w18 {k : TI → OR} : withTI prog 18 k = k ⟨1, 8, [Cell.raw (Value.pointer none)], Sh.struct [(0, 1, 17)]⟩ := withTI_of (by kernel_rfl)
theorem m18 : mkTI prog 18 = some ⟨1, 8, [Cell.raw (Value.pointer none)], Sh.struct [(0, 1, 17)]⟩ := by kernel_rfl
attribute [go_sem ↓] w18
attribute [go_sem] m18
theorem w19 {k : TI → OR} : withTI prog 19 k = k ⟨1, 8, [Cell.raw (Value.pointer none)], Sh.struct [(0, 1, 17)]⟩ := withTI_of (by kernel_rfl)
theorem m19 : mkTI prog 19 = some ⟨1, 8, [Cell.raw (Value.pointer none)], Sh.struct [(0, 1, 17)]⟩ := by kernel_rfl
attribute [go_sem ↓] w19
attribute [go_sem] m19
theorem w20 {k : TI → OR} : withTI prog 20 k = k ⟨1, 16, [Cell.raw Value.nilIface], Sh.other⟩ := withTI_of (by kernel_rfl)
theorem m20 : mkTI prog 20 = some ⟨1, 16, [Cell.raw Value.nilIface], Sh.other⟩ := by kernel_rfl
attribute [go_sem ↓] w20
attribute [go_sem] m20
theorem w21 {k : TI → OR} : withTI prog 21 k = k ⟨1, 4, [Cell.raw (Value.int IntKind.i32 0)], Sh.int IntKind.i32⟩ := withTI_of (by kernel_rfl)
theorem m21 : mkTI prog 21 = some ⟨1, 4, [Cell.raw (Value.int IntKind.i32 0)], Sh.int IntKind.i32⟩ := by kernel_rfl
attribute [go_sem ↓] w21
attribute [go_sem] m21
theorem w22 {k : TI → OR} : withTI prog 22 k = k ⟨1, 24, [Cell.zc], Sh.slice 3 1 8 (some IntKind.i64)⟩ := withTI_of (by kernel_rfl)
theorem m22 : mkTI prog 22 = some ⟨1, 24, [Cell.zc], Sh.slice 3 1 8 (some IntKind.i64)⟩ := by kernel_rfl
attribute [go_sem ↓] w22
attribute [go_sem] m22
theorem w23 {k : TI → OR} : withTI prog 23 k = k ⟨2, 32, [Cell.raw (Value.int IntKind.i64 0), Cell.zc], Sh.struct [(0, 1, 3), (1, 1, 22)]⟩ := withTI_of (by kernel_rfl)
theorem m23 : mkTI prog 23 = some ⟨2, 32, [Cell.raw (Value.int IntKind.i64 0), Cell.zc], Sh.struct [(0, 1, 3), (1, 1, 22)]⟩ := by kernel_rfl
attribute [go_sem ↓] w23
attribute [go_sem] m23
theorem w24 {k : TI → OR} : withTI prog 24 k = k ⟨2, 32, [Cell.raw (Value.int IntKind.i64 0), Cell.zc], Sh.struct [(0, 1, 3), (1, 1, 22)]⟩ := withTI_of (by kernel_rfl)
theorem m24 : mkTI prog 24 = some ⟨2, 32, [Cell.raw (Value.int IntKind.i64 0), Cell.zc], Sh.struct [(0, 1, 3), (1, 1, 22)]⟩ := by kernel_rfl
attribute [go_sem ↓] w24
attribute [go_sem] m24
theorem w25 {k : TI → OR} : withTI prog 25 k = k ⟨4, 64, [Cell.raw (Value.int IntKind.i64 0), Cell.zc, Cell.raw (Value.int IntKind.i64 0), Cell.zc], Sh.struct [(0, 2, 24), (2, 2, 24)]⟩ := withTI_of (by kernel_rfl)
theorem m25 : mkTI prog 25 = some ⟨4, 64, [Cell.raw (Value.int IntKind.i64 0), Cell.zc, Cell.raw (Value.int IntKind.i64 0), Cell.zc], Sh.struct [(0, 2, 24), (2, 2, 24)]⟩ := by kernel_rfl
attribute [go_sem ↓] w25
attribute [go_sem] m25
theorem w26 {k : TI → OR} : withTI prog 26 k = k ⟨4, 64, [Cell.raw (Value.int IntKind.i64 0), Cell.zc, Cell.raw (Value.int IntKind.i64 0), Cell.zc], Sh.struct [(0, 2, 24), (2, 2, 24)]⟩ := withTI_of (by kernel_rfl)
theorem m26 : mkTI prog 26 = some ⟨4, 64, [Cell.raw (Value.int IntKind.i64 0), Cell.zc, Cell.raw (Value.int IntKind.i64 0), Cell.zc], Sh.struct [(0, 2, 24), (2, 2, 24)]⟩ := by kernel_rfl
attribute [go_sem ↓] w26
attribute [go_sem] m26
theorem w27 {k : TI → OR} : withTI prog 27 k = k ⟨1, 24, [Cell.zc], Sh.slice 26 4 64 none⟩ := withTI_of (by kernel_rfl)
theorem m27 : mkTI prog 27 = some ⟨1, 24, [Cell.zc], Sh.slice 26 4 64 none⟩ := by kernel_rfl
attribute [go_sem ↓] w27
attribute [go_sem] m27
theorem w28 {k : TI → OR} : withTI prog 28 k = k ⟨5, 88, [Cell.raw (Value.int IntKind.i64 0), Cell.zc, Cell.raw (Value.int IntKind.i64 0), Cell.zc, Cell.zc], Sh.struct [(0, 4, 26), (4, 1, 27)]⟩ := withTI_of (by kernel_rfl)
theorem m28 : mkTI prog 28 = some ⟨5, 88, [Cell.raw (Value.int IntKind.i64 0), Cell.zc, Cell.raw (Value.int IntKind.i64 0), Cell.zc, Cell.zc], Sh.struct [(0, 4, 26), (4, 1, 27)]⟩ := by kernel_rfl
attribute [go_sem ↓] w28
attribute [go_sem] m28
theorem w29 {k : TI → OR} : withTI prog 29 k = k ⟨5, 88, [Cell.raw (Value.int IntKind.i64 0), Cell.zc, Cell.raw (Value.int IntKind.i64 0), Cell.zc, Cell.zc], Sh.struct [(0, 4, 26), (4, 1, 27)]⟩ := withTI_of (by kernel_rfl)
theorem m29 : mkTI prog 29 = some ⟨5, 88, [Cell.raw (Value.int IntKind.i64 0), Cell.zc, Cell.raw (Value.int IntKind.i64 0), Cell.zc, Cell.zc], Sh.struct [(0, 4, 26), (4, 1, 27)]⟩ := by kernel_rfl
attribute [go_sem ↓] w29
attribute [go_sem] m29
theorem w30 {k : TI → OR} : withTI prog 30 k = k ⟨1, 24, [Cell.zc], Sh.slice 37 8 128 none⟩ := withTI_of (by kernel_rfl)
theorem m30 : mkTI prog 30 = some ⟨1, 24, [Cell.zc], Sh.slice 37 8 128 none⟩ := by kernel_rfl
attribute [go_sem ↓] w30
attribute [go_sem] m30
theorem w31 {k : TI → OR} : withTI prog 31 k = k ⟨1, 8, [Cell.raw Value.nilFunc], Sh.other⟩ := withTI_of (by kernel_rfl)
theorem m31 : mkTI prog 31 = some ⟨1, 8, [Cell.raw Value.nilFunc], Sh.other⟩ := by kernel_rfl
attribute [go_sem ↓] w31
attribute [go_sem] m31
theorem w32 {k : TI → OR} : withTI prog 32 k = k ⟨1, 8, [Cell.raw Value.nilFunc], Sh.other⟩ := withTI_of (by kernel_rfl)
theorem m32 : mkTI prog 32 = some ⟨1, 8, [Cell.raw Value.nilFunc], Sh.other⟩ := by kernel_rfl
attribute [go_sem ↓] w32
attribute [go_sem] m32
theorem w33 {k : TI → OR} : withTI prog 33 k = k ⟨1, 8, [Cell.raw Value.nilFunc], Sh.other⟩ := withTI_of (by kernel_rfl)
theorem m33 : mkTI prog 33 = some ⟨1, 8, [Cell.raw Value.nilFunc], Sh.other⟩ := by kernel_rfl
attribute [go_sem ↓] w33
attribute [go_sem] m33
theorem w34 {k : TI → OR} : withTI prog 34 k = k ⟨1, 8, [Cell.raw Value.nilFunc], Sh.other⟩ := withTI_of (by kernel_rfl)
theorem m34 : mkTI prog 34 = some ⟨1, 8, [Cell.raw Value.nilFunc], Sh.other⟩ := by kernel_rfl
attribute [go_sem ↓] w34
attribute [go_sem] m34
theorem w35 {k : TI → OR} : withTI prog 35 k = k ⟨1, 8, [Cell.raw Value.nilFunc], Sh.other⟩ := withTI_of (by kernel_rfl)
theorem m35 : mkTI prog 35 = some ⟨1, 8, [Cell.raw Value.nilFunc], Sh.other⟩ := by kernel_rfl
attribute [go_sem ↓] w35
attribute [go_sem] m35
theorem w36 {k : TI → OR} : withTI prog 36 k = k ⟨8, 128, [Cell.raw (Value.int IntKind.i64 0), Cell.zc, Cell.raw (Value.int IntKind.i64 0), Cell.zc, Cell.raw (Value.int IntKind.i64 0), Cell.zc, Cell.raw (Value.int IntKind.i64 0), Cell.zc], Sh.struct [(0, 4, 26), (4, 4, 26)]⟩ := withTI_of (by kernel_rfl)
theorem m36 : mkTI prog 36 = some ⟨8, 128, [Cell.raw (Value.int IntKind.i64 0), Cell.zc, Cell.raw (Value.int IntKind.i64 0), Cell.zc, Cell.raw (Value.int IntKind.i64 0), Cell.zc, Cell.raw (Value.int IntKind.i64 0), Cell.zc], Sh.struct [(0, 4, 26), (4, 4, 26)]⟩ := by kernel_rfl
attribute [go_sem ↓] w36
attribute [go_sem] m36
theorem w37 {k : TI → OR} : withTI prog 37 k = k ⟨8, 128, [Cell.raw (Value.int IntKind.i64 0), Cell.zc, Cell.raw (Value.int IntKind.i64 0), Cell.zc, Cell.raw (Value.int IntKind.i64 0), Cell.zc, Cell.raw (Value.int IntKind.i64 0), Cell.zc], Sh.struct [(0, 4, 26), (4, 4, 26)]⟩ := withTI_of (by kernel_rfl)
theorem m37 : mkTI prog 37 = some ⟨8, 128, [Cell.raw (Value.int IntKind.i64 0), Cell.zc, Cell.raw (Value.int IntKind.i64 0), Cell.zc, Cell.raw (Value.int IntKind.i64 0), Cell.zc, Cell.raw (Value.int IntKind.i64 0), Cell.zc], Sh.struct [(0, 4, 26), (4, 4, 26)]⟩ := by kernel_rfl
attribute [go_sem ↓] w37
attribute [go_sem] m37
theorem w38 {k : TI → OR} : withTI prog 38 k = k ⟨1, 8, [Cell.raw (Value.int IntKind.i64 0)], Sh.int IntKind.i64⟩ := withTI_of (by kernel_rfl)
theorem m38 : mkTI prog 38 = some ⟨1, 8, [Cell.raw (Value.int IntKind.i64 0)], Sh.int IntKind.i64⟩ := by kernel_rfl
attribute [go_sem ↓] w38
attribute [go_sem] m38
theorem w40 {k : TI → OR} : withTI prog 40 k = k ⟨1, 8, [Cell.raw Value.nilFunc], Sh.other⟩ := withTI_of (by kernel_rfl)
theorem m40 : mkTI prog 40 = some ⟨1, 8, [Cell.raw Value.nilFunc], Sh.other⟩ := by kernel_rfl
attribute [go_sem ↓] w40
attribute [go_sem] m40
theorem w41 {k : TI → OR} : withTI prog 41 k = k ⟨1, 8, [Cell.raw Value.nilFunc], Sh.other⟩ := withTI_of (by kernel_rfl)
theorem m41 : mkTI prog 41 = some ⟨1, 8, [Cell.raw Value.nilFunc], Sh.other⟩ := by kernel_rfl
attribute [go_sem ↓] w41
attribute [go_sem] m41
theorem w42 {k : TI → OR} : withTI prog 42 k = k ⟨1, 8, [Cell.raw Value.nilFunc], Sh.other⟩ := withTI_of (by kernel_rfl)
theorem m42 : mkTI prog 42 = some ⟨1, 8, [Cell.raw Value.nilFunc], Sh.other⟩ := by kernel_rfl
attribute [go_sem ↓] w42
attribute [go_sem] m42
theorem w44 {k : TI → OR} : withTI prog 44 k = k ⟨1, 8, [Cell.raw Value.nilFunc], Sh.other⟩ := withTI_of (by kernel_rfl)
theorem m44 : mkTI prog 44 = some ⟨1, 8, [Cell.raw Value.nilFunc], Sh.other⟩ := by kernel_rfl
attribute [go_sem ↓] w44
attribute [go_sem] m44
theorem w45 {k : TI → OR} : withTI prog 45 k = k ⟨1, 8, [Cell.raw Value.nilFunc], Sh.other⟩ := withTI_of (by kernel_rfl)
theorem m45 : mkTI prog 45 = some ⟨1, 8, [Cell.raw Value.nilFunc], Sh.other⟩ := by kernel_rfl
attribute [go_sem ↓] w45
attribute [go_sem] m45
theorem w46 {k : TI → OR} : withTI prog 46 k = k ⟨1, 8, [Cell.raw Value.nilFunc], Sh.other⟩ := withTI_of (by kernel_rfl)
theorem m46 : mkTI prog 46 = some ⟨1, 8, [Cell.raw Value.nilFunc], Sh.other⟩ := by kernel_rfl
attribute [go_sem ↓] w46
attribute [go_sem] m46
theorem w48 {k : TI → OR} : withTI prog 48 k = k ⟨1, 8, [Cell.raw Value.nilFunc], Sh.other⟩ := withTI_of (by kernel_rfl)
theorem m48 : mkTI prog 48 = some ⟨1, 8, [Cell.raw Value.nilFunc], Sh.other⟩ := by kernel_rfl
attribute [go_sem ↓] w48
attribute [go_sem] m48
theorem w49 {k : TI → OR} : withTI prog 49 k = k ⟨1, 8, [Cell.raw Value.nilFunc], Sh.other⟩ := withTI_of (by kernel_rfl)
theorem m49 : mkTI prog 49 = some ⟨1, 8, [Cell.raw Value.nilFunc], Sh.other⟩ := by kernel_rfl
attribute [go_sem ↓] w49
attribute [go_sem] m49
theorem w51 {k : TI → OR} : withTI prog 51 k = k ⟨1, 8, [Cell.raw Value.nilFunc], Sh.other⟩ := withTI_of (by kernel_rfl)
theorem m51 : mkTI prog 51 = some ⟨1, 8, [Cell.raw Value.nilFunc], Sh.other⟩ := by kernel_rfl
attribute [go_sem ↓] w51
attribute [go_sem] m51
theorem w52 {k : TI → OR} : withTI prog 52 k = k ⟨1, 8, [Cell.raw Value.nilFunc], Sh.other⟩ := withTI_of (by kernel_rfl)
theorem m52 : mkTI prog 52 = some ⟨1, 8, [Cell.raw Value.nilFunc], Sh.other⟩ := by kernel_rfl
attribute [go_sem ↓] w52
attribute [go_sem] m52
theorem w53 {k : TI → OR} : withTI prog 53 k = k ⟨1, 8, [Cell.raw Value.nilFunc], Sh.other⟩ := withTI_of (by kernel_rfl)
theorem m53 : mkTI prog 53 = some ⟨1, 8, [Cell.raw Value.nilFunc], Sh.other⟩ := by kernel_rfl
attribute [go_sem ↓] w53
attribute [go_sem] m53
theorem w54 {k : TI → OR} : withTI prog 54 k = k ⟨1, 8, [Cell.raw Value.nilFunc], Sh.other⟩ := withTI_of (by kernel_rfl)
theorem m54 : mkTI prog 54 = some ⟨1, 8, [Cell.raw Value.nilFunc], Sh.other⟩ := by kernel_rfl
attribute [go_sem ↓] w54
attribute [go_sem] m54
theorem w55 {k : TI → OR} : withTI prog 55 k = k ⟨1, 8, [Cell.raw Value.nilFunc], Sh.other⟩ := withTI_of (by kernel_rfl)
theorem m55 : mkTI prog 55 = some ⟨1, 8, [Cell.raw Value.nilFunc], Sh.other⟩ := by kernel_rfl
attribute [go_sem ↓] w55
attribute [go_sem] m55
theorem w57 {k : TI → OR} : withTI prog 57 k = k ⟨1, 8, [Cell.raw Value.nilFunc], Sh.other⟩ := withTI_of (by kernel_rfl)
theorem m57 : mkTI prog 57 = some ⟨1, 8, [Cell.raw Value.nilFunc], Sh.other⟩ := by kernel_rfl
attribute [go_sem ↓] w57
attribute [go_sem] m57
theorem w58 {k : TI → OR} : withTI prog 58 k = k ⟨1, 8, [Cell.raw Value.nilFunc], Sh.other⟩ := withTI_of (by kernel_rfl)
theorem m58 : mkTI prog 58 = some ⟨1, 8, [Cell.raw Value.nilFunc], Sh.other⟩ := by kernel_rfl
attribute [go_sem ↓] w58
attribute [go_sem] m58
theorem w60 {k : TI → OR} : withTI prog 60 k = k ⟨1, 8, [Cell.raw Value.nilFunc], Sh.other⟩ := withTI_of (by kernel_rfl)
theorem m60 : mkTI prog 60 = some ⟨1, 8, [Cell.raw Value.nilFunc], Sh.other⟩ := by kernel_rfl
attribute [go_sem ↓] w60
attribute [go_sem] m60
theorem w61 {k : TI → OR} : withTI prog 61 k = k ⟨1, 8, [Cell.raw Value.nilFunc], Sh.other⟩ := withTI_of (by kernel_rfl)
theorem m61 : mkTI prog 61 = some ⟨1, 8, [Cell.raw Value.nilFunc], Sh.other⟩ := by kernel_rfl
attribute [go_sem ↓] w61
attribute [go_sem] m61
theorem w62 {k : TI → OR} : withTI prog 62 k = k ⟨1, 8, [Cell.raw Value.nilFunc], Sh.other⟩ := withTI_of (by kernel_rfl)
theorem m62 : mkTI prog 62 = some ⟨1, 8, [Cell.raw Value.nilFunc], Sh.other⟩ := by kernel_rfl
attribute [go_sem ↓] w62
attribute [go_sem] m62
theorem w63 {k : TI → OR} : withTI prog 63 k = k ⟨1, 8, [Cell.raw Value.nilFunc], Sh.other⟩ := withTI_of (by kernel_rfl)
theorem m63 : mkTI prog 63 = some ⟨1, 8, [Cell.raw Value.nilFunc], Sh.other⟩ := by kernel_rfl
attribute [go_sem ↓] w63
attribute [go_sem] m63
theorem w64 {k : TI → OR} : withTI prog 64 k = k ⟨1, 8, [Cell.raw Value.nilFunc], Sh.other⟩ := withTI_of (by kernel_rfl)
theorem m64 : mkTI prog 64 = some ⟨1, 8, [Cell.raw Value.nilFunc], Sh.other⟩ := by kernel_rfl
attribute [go_sem ↓] w64
attribute [go_sem] m64
theorem w65 {k : TI → OR} : withTI prog 65 k = k ⟨1, 8, [Cell.raw Value.nilFunc], Sh.other⟩ := withTI_of (by kernel_rfl)
theorem m65 : mkTI prog 65 = some ⟨1, 8, [Cell.raw Value.nilFunc], Sh.other⟩ := by kernel_rfl
attribute [go_sem ↓] w65
attribute [go_sem] m65
theorem w66 {k : TI → OR} : withTI prog 66 k = k ⟨1, 8, [Cell.raw Value.nilFunc], Sh.other⟩ := withTI_of (by kernel_rfl)
theorem m66 : mkTI prog 66 = some ⟨1, 8, [Cell.raw Value.nilFunc], Sh.other⟩ := by kernel_rfl
attribute [go_sem ↓] w66
attribute [go_sem] m66
theorem w67 {k : TI → OR} : withTI prog 67 k = k ⟨1, 8, [Cell.raw Value.nilFunc], Sh.other⟩ := withTI_of (by kernel_rfl)
theorem m67 : mkTI prog 67 = some ⟨1, 8, [Cell.raw Value.nilFunc], Sh.other⟩ := by kernel_rfl
attribute [go_sem ↓] w67
attribute [go_sem] m67
theorem w68 {k : TI → OR} : withTI prog 68 k = k ⟨1, 8, [Cell.raw Value.nilFunc], Sh.other⟩ := withTI_of (by kernel_rfl)
theorem m68 : mkTI prog 68 = some ⟨1, 8, [Cell.raw Value.nilFunc], Sh.other⟩ := by kernel_rfl
attribute [go_sem ↓] w68
attribute [go_sem] m68
theorem w69 {k : TI → OR} : withTI prog 69 k = k ⟨1, 8, [Cell.raw Value.nilFunc], Sh.other⟩ := withTI_of (by kernel_rfl)
theorem m69 : mkTI prog 69 = some ⟨1, 8, [Cell.raw Value.nilFunc], Sh.other⟩ := by kernel_rfl
attribute [go_sem ↓] w69
attribute [go_sem] m69
theorem w70 {k : TI → OR} : withTI prog 70 k = k ⟨1, 8, [Cell.raw Value.nilFunc], Sh.other⟩ := withTI_of (by kernel_rfl)
theorem m70 : mkTI prog 70 = some ⟨1, 8, [Cell.raw Value.nilFunc], Sh.other⟩ := by kernel_rfl
attribute [go_sem ↓] w70
attribute [go_sem] m70
theorem w71 {k : TI → OR} : withTI prog 71 k = k ⟨1, 8, [Cell.raw Value.nilFunc], Sh.other⟩ := withTI_of (by kernel_rfl)
theorem m71 : mkTI prog 71 = some ⟨1, 8, [Cell.raw Value.nilFunc], Sh.other⟩ := by kernel_rfl
attribute [go_sem ↓] w71
attribute [go_sem] m71
theorem w73 {k : TI → OR} : withTI prog 73 k = k ⟨1, 8, [Cell.raw Value.nilFunc], Sh.other⟩ := withTI_of (by kernel_rfl)
theorem m73 : mkTI prog 73 = some ⟨1, 8, [Cell.raw Value.nilFunc], Sh.other⟩ := by kernel_rfl
attribute [go_sem ↓] w73
attribute [go_sem] m73
theorem w75 {k : TI → OR} : withTI prog 75 k = k ⟨1, 8, [Cell.raw Value.nilFunc], Sh.other⟩ := withTI_of (by kernel_rfl)
theorem m75 : mkTI prog 75 = some ⟨1, 8, [Cell.raw Value.nilFunc], Sh.other⟩ := by kernel_rfl
attribute [go_sem ↓] w75
attribute [go_sem] m75
theorem w76 {k : TI → OR} : withTI prog 76 k = k ⟨1, 8, [Cell.raw Value.nilFunc], Sh.other⟩ := withTI_of (by kernel_rfl)
theorem m76 : mkTI prog 76 = some ⟨1, 8, [Cell.raw Value.nilFunc], Sh.other⟩ := by kernel_rfl
attribute [go_sem ↓] w76
attribute [go_sem] m76
theorem w77 {k : TI → OR} : withTI prog 77 k = k ⟨1, 8, [Cell.raw Value.nilFunc], Sh.other⟩ := withTI_of (by kernel_rfl)
theorem m77 : mkTI prog 77 = some ⟨1, 8, [Cell.raw Value.nilFunc], Sh.other⟩ := by kernel_rfl
attribute [go_sem ↓] w77
attribute [go_sem] m77
theorem w78 {k : TI → OR} : withTI prog 78 k = k ⟨1, 8, [Cell.raw Value.nilFunc], Sh.other⟩ := withTI_of (by kernel_rfl)
theorem m78 : mkTI prog 78 = some ⟨1, 8, [Cell.raw Value.nilFunc], Sh.other⟩ := by kernel_rfl
attribute [go_sem ↓] w78
attribute [go_sem] m78
theorem w79 {k : TI → OR} : withTI prog 79 k = k ⟨1, 8, [Cell.raw Value.nilFunc], Sh.other⟩ := withTI_of (by kernel_rfl)
theorem m79 : mkTI prog 79 = some ⟨1, 8, [Cell.raw Value.nilFunc], Sh.other⟩ := by kernel_rfl
attribute [go_sem ↓] w79
attribute [go_sem] m79
theorem w80 {k : TI → OR} : withTI prog 80 k = k ⟨1, 8, [Cell.raw Value.nilFunc], Sh.other⟩ := withTI_of (by kernel_rfl)
theorem m80 : mkTI prog 80 = some ⟨1, 8, [Cell.raw Value.nilFunc], Sh.other⟩ := by kernel_rfl
attribute [go_sem ↓] w80
attribute [go_sem] m80
theorem w81 {k : TI → OR} : withTI prog 81 k = k ⟨1, 8, [Cell.raw Value.nilFunc], Sh.other⟩ := withTI_of (by kernel_rfl)
theorem m81 : mkTI prog 81 = some ⟨1, 8, [Cell.raw Value.nilFunc], Sh.other⟩ := by kernel_rfl
attribute [go_sem ↓] w81
attribute [go_sem] m81
theorem w82 {k : TI → OR} : withTI prog 82 k = k ⟨1, 8, [Cell.raw Value.nilFunc], Sh.other⟩ := withTI_of (by kernel_rfl)
theorem m82 : mkTI prog 82 = some ⟨1, 8, [Cell.raw Value.nilFunc], Sh.other⟩ := by kernel_rfl
attribute [go_sem ↓] w82
attribute [go_sem] m82
theorem w83 {k : TI → OR} : withTI prog 83 k = k ⟨1, 8, [Cell.raw Value.nilFunc], Sh.other⟩ := withTI_of (by kernel_rfl)
theorem m83 : mkTI prog 83 = some ⟨1, 8, [Cell.raw Value.nilFunc], Sh.other⟩ := by kernel_rfl
attribute [go_sem ↓] w83
attribute [go_sem] m83
theorem w84 {k : TI → OR} : withTI prog 84 k = k ⟨1, 8, [Cell.raw Value.nilFunc], Sh.other⟩ := withTI_of (by kernel_rfl)
theorem m84 : mkTI prog 84 = some ⟨1, 8, [Cell.raw Value.nilFunc], Sh.other⟩ := by kernel_rfl
attribute [go_sem ↓] w84
attribute [go_sem] m84
theorem w85 {k : TI → OR} : withTI prog 85 k = k ⟨1, 8, [Cell.raw Value.nilFunc], Sh.other⟩ := withTI_of (by kernel_rfl)
theorem m85 : mkTI prog 85 = some ⟨1, 8, [Cell.raw Value.nilFunc], Sh.other⟩ := by kernel_rfl
attribute [go_sem ↓] w85
attribute [go_sem] m85
theorem w86 {k : TI → OR} : withTI prog 86 k = k ⟨1, 8, [Cell.raw Value.nilFunc], Sh.other⟩ := withTI_of (by kernel_rfl)
theorem m86 : mkTI prog 86 = some ⟨1, 8, [Cell.raw Value.nilFunc], Sh.other⟩ := by kernel_rfl
attribute [go_sem ↓] w86
attribute [go_sem] m86
theorem w87 {k : TI → OR} : withTI prog 87 k = k ⟨1, 8, [Cell.raw Value.nilFunc], Sh.other⟩ := withTI_of (by kernel_rfl)
theorem m87 : mkTI prog 87 = some ⟨1, 8, [Cell.raw Value.nilFunc], Sh.other⟩ := by kernel_rfl
attribute [go_sem ↓] w87
attribute [go_sem] m87
theorem w88 {k : TI → OR} : withTI prog 88 k = k ⟨1, 8, [Cell.raw Value.nilFunc], Sh.other⟩ := withTI_of (by kernel_rfl)
theorem m88 : mkTI prog 88 = some ⟨1, 8, [Cell.raw Value.nilFunc], Sh.other⟩ := by kernel_rfl
attribute [go_sem ↓] w88
attribute [go_sem] m88
theorem w89 {k : TI → OR} : withTI prog 89 k = k ⟨1, 8, [Cell.raw Value.nilFunc], Sh.other⟩ := withTI_of (by kernel_rfl)
theorem m89 : mkTI prog 89 = some ⟨1, 8, [Cell.raw Value.nilFunc], Sh.other⟩ := by kernel_rfl
attribute [go_sem ↓] w89
attribute [go_sem] m89
theorem w90 {k : TI → OR} : withTI prog 90 k = k ⟨1, 8, [Cell.raw Value.nilFunc], Sh.other⟩ := withTI_of (by kernel_rfl)
theorem m90 : mkTI prog 90 = some ⟨1, 8, [Cell.raw Value.nilFunc], Sh.other⟩ := by kernel_rfl
attribute [go_sem ↓] w90
attribute [go_sem] m90
theorem w92 {k : TI → OR} : withTI prog 92 k = k ⟨1, 8, [Cell.raw Value.nilFunc], Sh.other⟩ := withTI_of (by kernel_rfl)
theorem m92 : mkTI prog 92 = some ⟨1, 8, [Cell.raw Value.nilFunc], Sh.other⟩ := by kernel_rfl
attribute [go_sem ↓] w92
attribute [go_sem] m92
theorem w93 {k : TI → OR} : withTI prog 93 k = k ⟨1, 8, [Cell.raw Value.nilFunc], Sh.other⟩ := withTI_of (by kernel_rfl)
theorem m93 : mkTI prog 93 = some ⟨1, 8, [Cell.raw Value.nilFunc], Sh.other⟩ := by kernel_rfl
attribute [go_sem ↓] w93
attribute [go_sem] m93
theorem w95 {k : TI → OR} : withTI prog 95 k = k ⟨1, 8, [Cell.raw Value.nilFunc], Sh.other⟩ := withTI_of (by kernel_rfl)
theorem m95 : mkTI prog 95 = some ⟨1, 8, [Cell.raw Value.nilFunc], Sh.other⟩ := by kernel_rfl
attribute [go_sem ↓] w95
attribute [go_sem] m95
theorem w96 {k : TI → OR} : withTI prog 96 k = k ⟨1, 8, [Cell.raw Value.nilFunc], Sh.other⟩ := withTI_of (by kernel_rfl)
theorem m96 : mkTI prog 96 = some ⟨1, 8, [Cell.raw Value.nilFunc], Sh.other⟩ := by kernel_rfl
attribute [go_sem ↓] w96
attribute [go_sem] m96
theorem w97 {k : TI → OR} : withTI prog 97 k = k ⟨1, 8, [Cell.raw Value.nilFunc], Sh.other⟩ := withTI_of (by kernel_rfl)
theorem m97 : mkTI prog 97 = some ⟨1, 8, [Cell.raw Value.nilFunc], Sh.other⟩ := by kernel_rfl
attribute [go_sem ↓] w97
attribute [go_sem] m97
theorem w98 {k : TI → OR} : withTI prog 98 k = k ⟨1, 8, [Cell.raw Value.nilFunc], Sh.other⟩ := withTI_of (by kernel_rfl)
theorem m98 : mkTI prog 98 = some ⟨1, 8, [Cell.raw Value.nilFunc], Sh.other⟩ := by kernel_rfl
attribute [go_sem ↓] w98
attribute [go_sem] m98
theorem w99 {k : TI → OR} : withTI prog 99 k = k ⟨1, 8, [Cell.raw Value.nilFunc], Sh.other⟩ := withTI_of (by kernel_rfl)
theorem m99 : mkTI prog 99 = some ⟨1, 8, [Cell.raw Value.nilFunc], Sh.other⟩ := by kernel_rfl
attribute [go_sem ↓] w99
attribute [go_sem] m99
theorem w100 {k : TI → OR} : withTI prog 100 k = k ⟨1, 8, [Cell.raw Value.nilFunc], Sh.other⟩ := withTI_of (by kernel_rfl)
theorem m100 : mkTI prog 100 = some ⟨1, 8, [Cell.raw Value.nilFunc], Sh.other⟩ := by kernel_rfl
attribute [go_sem ↓] w100
attribute [go_sem] m100
theorem w101 {k : TI → OR} : withTI prog 101 k = k ⟨1, 8, [Cell.raw Value.nilFunc], Sh.other⟩ := withTI_of (by kernel_rfl)
theorem m101 : mkTI prog 101 = some ⟨1, 8, [Cell.raw Value.nilFunc], Sh.other⟩ := by kernel_rfl
attribute [go_sem ↓] w101
attribute [go_sem] m101
theorem w102 {k : TI → OR} : withTI prog 102 k = k ⟨1, 8, [Cell.raw Value.nilFunc], Sh.other⟩ := withTI_of (by kernel_rfl)
theorem m102 : mkTI prog 102 = some ⟨1, 8, [Cell.raw Value.nilFunc], Sh.other⟩ := by kernel_rfl
attribute [go_sem ↓] w102
attribute [go_sem] m102
theorem w104 {k : TI → OR} : withTI prog 104 k = k ⟨1, 8, [Cell.raw Value.nilFunc], Sh.other⟩ := withTI_of (by kernel_rfl)
theorem m104 : mkTI prog 104 = some ⟨1, 8, [Cell.raw Value.nilFunc], Sh.other⟩ := by kernel_rfl
attribute [go_sem ↓] w104
attribute [go_sem] m104
theorem w105 {k : TI → OR} : withTI prog 105 k = k ⟨1, 8, [Cell.raw Value.nilFunc], Sh.other⟩ := withTI_of (by kernel_rfl)
theorem m105 : mkTI prog 105 = some ⟨1, 8, [Cell.raw Value.nilFunc], Sh.other⟩ := by kernel_rfl
attribute [go_sem ↓] w105
attribute [go_sem] m105
theorem w106 {k : TI → OR} : withTI prog 106 k = k ⟨1, 8, [Cell.raw (Value.int IntKind.u64 0)], Sh.int IntKind.u64⟩ := withTI_of (by kernel_rfl)
theorem m106 : mkTI prog 106 = some ⟨1, 8, [Cell.raw (Value.int IntKind.u64 0)], Sh.int IntKind.u64⟩ := by kernel_rfl
attribute [go_sem ↓] w106
attribute [go_sem] m106
theorem w107 {k : TI → OR} : withTI prog 107 k = k ⟨1, 8, [Cell.raw Value.nilFunc], Sh.other⟩ := withTI_of (by kernel_rfl)
theorem m107 : mkTI prog 107 = some ⟨1, 8, [Cell.raw Value.nilFunc], Sh.other⟩ := by kernel_rfl
attribute [go_sem ↓] w107
attribute [go_sem] m107
theorem w108 {k : TI → OR} : withTI prog 108 k = k ⟨1, 8, [Cell.raw (Value.int IntKind.u64 0)], Sh.int IntKind.u64⟩ := withTI_of (by kernel_rfl)
theorem m108 : mkTI prog 108 = some ⟨1, 8, [Cell.raw (Value.int IntKind.u64 0)], Sh.int IntKind.u64⟩ := by kernel_rfl
attribute [go_sem ↓] w108
attribute [go_sem] m108
theorem w109 {k : TI → OR} : withTI prog 109 k = k ⟨1, 8, [Cell.raw Value.nilFunc], Sh.other⟩ := withTI_of (by kernel_rfl)
theorem m109 : mkTI prog 109 = some ⟨1, 8, [Cell.raw Value.nilFunc], Sh.other⟩ := by kernel_rfl
attribute [go_sem ↓] w109
attribute [go_sem] m109
theorem w110 {k : TI → OR} : withTI prog 110 k = k ⟨1, 8, [Cell.raw Value.nilFunc], Sh.other⟩ := withTI_of (by kernel_rfl)
theorem m110 : mkTI prog 110 = some ⟨1, 8, [Cell.raw Value.nilFunc], Sh.other⟩ := by kernel_rfl
attribute [go_sem ↓] w110
attribute [go_sem] m110
theorem w112 {k : TI → OR} : withTI prog 112 k = k ⟨1, 8, [Cell.raw Value.nilFunc], Sh.other⟩ := withTI_of (by kernel_rfl)
theorem m112 : mkTI prog 112 = some ⟨1, 8, [Cell.raw Value.nilFunc], Sh.other⟩ := by kernel_rfl
attribute [go_sem ↓] w112
attribute [go_sem] m112
theorem w113 {k : TI → OR} : withTI prog 113 k = k ⟨1, 8, [Cell.raw Value.nilFunc], Sh.other⟩ := withTI_of (by kernel_rfl)
theorem m113 : mkTI prog 113 = some ⟨1, 8, [Cell.raw Value.nilFunc], Sh.other⟩ := by kernel_rfl
attribute [go_sem ↓] w113
attribute [go_sem] m113
theorem w114 {k : TI → OR} : withTI prog 114 k = k ⟨1, 8, [Cell.raw Value.nilFunc], Sh.other⟩ := withTI_of (by kernel_rfl)
theorem m114 : mkTI prog 114 = some ⟨1, 8, [Cell.raw Value.nilFunc], Sh.other⟩ := by kernel_rfl
attribute [go_sem ↓] w114
attribute [go_sem] m114
theorem w115 {k : TI → OR} : withTI prog 115 k = k ⟨1, 8, [Cell.raw Value.nilFunc], Sh.other⟩ := withTI_of (by kernel_rfl)
theorem m115 : mkTI prog 115 = some ⟨1, 8, [Cell.raw Value.nilFunc], Sh.other⟩ := by kernel_rfl
attribute [go_sem ↓] w115
attribute [go_sem] m115
theorem w116 {k : TI → OR} : withTI prog 116 k = k ⟨1, 8, [Cell.raw Value.nilFunc], Sh.other⟩ := withTI_of (by kernel_rfl)
theorem m116 : mkTI prog 116 = some ⟨1, 8, [Cell.raw Value.nilFunc], Sh.other⟩ := by kernel_rfl
attribute [go_sem ↓] w116
attribute [go_sem] m116
theorem w117 {k : TI → OR} : withTI prog 117 k = k ⟨4, 40, [Cell.raw (Value.pointer none), Cell.raw (Value.pointer none), Cell.raw (Value.pointer none), Cell.raw (Value.string ⟨⟨[]⟩⟩)], Sh.struct [(0, 1, 17), (1, 1, 17), (2, 1, 17), (3, 1, 9)]⟩ := withTI_of (by kernel_rfl)
theorem m117 : mkTI prog 117 = some ⟨4, 40, [Cell.raw (Value.pointer none), Cell.raw (Value.pointer none), Cell.raw (Value.pointer none), Cell.raw (Value.string ⟨⟨[]⟩⟩)], Sh.struct [(0, 1, 17), (1, 1, 17), (2, 1, 17), (3, 1, 9)]⟩ := by kernel_rfl
attribute [go_sem ↓] w117
attribute [go_sem] m117
theorem w118 {k : TI → OR} : withTI prog 118 k = k ⟨4, 40, [Cell.raw (Value.pointer none), Cell.raw (Value.pointer none), Cell.raw (Value.pointer none), Cell.raw (Value.string ⟨⟨[]⟩⟩)], Sh.struct [(0, 1, 17), (1, 1, 17), (2, 1, 17), (3, 1, 9)]⟩ := withTI_of (by kernel_rfl)
theorem m118 : mkTI prog 118 = some ⟨4, 40, [Cell.raw (Value.pointer none), Cell.raw (Value.pointer none), Cell.raw (Value.pointer none), Cell.raw (Value.string ⟨⟨[]⟩⟩)], Sh.struct [(0, 1, 17), (1, 1, 17), (2, 1, 17), (3, 1, 9)]⟩ := by kernel_rfl
attribute [go_sem ↓] w118
attribute [go_sem] m118
theorem w119 {k : TI → OR} : withTI prog 119 k = k ⟨0, 0, [], Sh.array 0 16 1⟩ := withTI_of (by kernel_rfl)
theorem m119 : mkTI prog 119 = some ⟨0, 0, [], Sh.array 0 16 1⟩ := by kernel_rfl
attribute [go_sem ↓] w119
attribute [go_sem] m119
theorem w120 {k : TI → OR} : withTI prog 120 k = k ⟨0, 0, [], Sh.other⟩ := withTI_of (by kernel_rfl)
theorem m120 : mkTI prog 120 = some ⟨0, 0, [], Sh.other⟩ := by kernel_rfl
attribute [go_sem ↓] w120
attribute [go_sem] m120
theorem w121 {k : TI → OR} : withTI prog 121 k = k ⟨0, 0, [], Sh.other⟩ := withTI_of (by kernel_rfl)
theorem m121 : mkTI prog 121 = some ⟨0, 0, [], Sh.other⟩ := by kernel_rfl
attribute [go_sem ↓] w121
attribute [go_sem] m121
theorem w122 {k : TI → OR} : withTI prog 122 k = k ⟨1, 8, [Cell.raw Value.nilFunc], Sh.other⟩ := withTI_of (by kernel_rfl)
theorem m122 : mkTI prog 122 = some ⟨1, 8, [Cell.raw Value.nilFunc], Sh.other⟩ := by kernel_rfl
attribute [go_sem ↓] w122
attribute [go_sem] m122
theorem w123 {k : TI → OR} : withTI prog 123 k = k ⟨1, 4, [Cell.raw (Value.int IntKind.u32 0)], Sh.int IntKind.u32⟩ := withTI_of (by kernel_rfl)
theorem m123 : mkTI prog 123 = some ⟨1, 4, [Cell.raw (Value.int IntKind.u32 0)], Sh.int IntKind.u32⟩ := by kernel_rfl
attribute [go_sem ↓] w123
attribute [go_sem] m123
theorem w124 {k : TI → OR} : withTI prog 124 k = k ⟨1, 1, [Cell.raw (Value.int IntKind.u8 0)], Sh.int IntKind.u8⟩ := withTI_of (by kernel_rfl)
theorem m124 : mkTI prog 124 = some ⟨1, 1, [Cell.raw (Value.int IntKind.u8 0)], Sh.int IntKind.u8⟩ := by kernel_rfl
attribute [go_sem ↓] w124
attribute [go_sem] m124
theorem w125 {k : TI → OR} : withTI prog 125 k = k ⟨1, 1, [Cell.raw (Value.int IntKind.u8 0)], Sh.int IntKind.u8⟩ := withTI_of (by kernel_rfl)
theorem m125 : mkTI prog 125 = some ⟨1, 1, [Cell.raw (Value.int IntKind.u8 0)], Sh.int IntKind.u8⟩ := by kernel_rfl
attribute [go_sem ↓] w125
attribute [go_sem] m125
theorem w126 {k : TI → OR} : withTI prog 126 k = k ⟨1, 8, [Cell.raw Value.nilFunc], Sh.other⟩ := withTI_of (by kernel_rfl)
theorem m126 : mkTI prog 126 = some ⟨1, 8, [Cell.raw Value.nilFunc], Sh.other⟩ := by kernel_rfl
attribute [go_sem ↓] w126
attribute [go_sem] m126
theorem w127 {k : TI → OR} : withTI prog 127 k = k ⟨1, 8, [Cell.raw (Value.pointer none)], Sh.other⟩ := withTI_of (by kernel_rfl)
theorem m127 : mkTI prog 127 = some ⟨1, 8, [Cell.raw (Value.pointer none)], Sh.other⟩ := by kernel_rfl
attribute [go_sem ↓] w127
attribute [go_sem] m127
theorem w128 {k : TI → OR} : withTI prog 128 k = k ⟨1, 4, [Cell.raw (Value.int IntKind.i32 0)], Sh.int IntKind.i32⟩ := withTI_of (by kernel_rfl)
theorem m128 : mkTI prog 128 = some ⟨1, 4, [Cell.raw (Value.int IntKind.i32 0)], Sh.int IntKind.i32⟩ := by kernel_rfl
attribute [go_sem ↓] w128
attribute [go_sem] m128
theorem w129 {k : TI → OR} : withTI prog 129 k = k ⟨1, 4, [Cell.raw (Value.int IntKind.i32 0)], Sh.int IntKind.i32⟩ := withTI_of (by kernel_rfl)
theorem m129 : mkTI prog 129 = some ⟨1, 4, [Cell.raw (Value.int IntKind.i32 0)], Sh.int IntKind.i32⟩ := by kernel_rfl
attribute [go_sem ↓] w129
attribute [go_sem] m129
theorem mixed : prog.follows .mixedOrders = true := by kernel_rfl
theorem drawK_prog {k : Bool → Prop} : DrawK prog k = k true := propext ⟨fun h => h.2, fun h => ⟨mixed, h⟩⟩
attribute [go_sem] drawK_prog
end Go.Slot.T

/- Plain laws: digits to the base 2^20, the numbers that they stand for, canonical digits. -/
namespace Go.Slot
open Go Go.RowKit
set_option maxRecDepth 10000

/-- digits to the base 2^20 -/
def digits (L : List Int) : Prop := ∀ x ∈ L, 0 ≤ x ∧ x ≤ 1048575
instance (L : List Int) : Decidable (digits L) := inferInstanceAs (Decidable (∀ x ∈ L, 0 ≤ x ∧ x ≤ 1048575))
/-- the number that digits stand for -/
def num : List Int → Int
  | [] => 0
  | d :: l => d + 1048576 * num l
theorem digits.nil : digits [] := fun _ h => by cases h
theorem digits.cons {d : Int} {l : List Int} (h : 0 ≤ d ∧ d ≤ 1048575) (hl : digits l) : digits (d :: l) := fun x hx => by
  rcases List.mem_cons.1 hx with rfl | hx
  · exact h
  · exact hl x hx
theorem digits.head {d : Int} {l : List Int} (h : digits (d :: l)) : 0 ≤ d ∧ d ≤ 1048575 := h d (by simp)
theorem digits.tail {d : Int} {l : List Int} (h : digits (d :: l)) : digits l := fun x hx => h x (by simp [hx])
theorem digits.append {l m : List Int} (hl : digits l) (hm : digits m) : digits (l ++ m) := fun x hx => by
  rcases List.mem_append.1 hx with hx | hx
  · exact hl x hx
  · exact hm x hx
theorem digits.take {l : List Int} (h : digits l) (n : Nat) : digits (l.take n) := fun x hx => h x (List.mem_of_mem_take hx)
theorem digits.drop {l : List Int} (h : digits l) (n : Nat) : digits (l.drop n) := fun x hx => h x (List.mem_of_mem_drop hx)
theorem digits.getD {l : List Int} (h : digits l) (i : Nat) : 0 ≤ l.getD i 0 ∧ l.getD i 0 ≤ 1048575 := by
  rw [List.getD_eq_getElem?_getD]
  cases hh : l[i]? with
  | none => simp
  | some x => exact h x (List.mem_of_getElem? hh)
theorem digits.set {l : List Int} (h : digits l) (i : Nat) {x : Int} (hx : 0 ≤ x ∧ x ≤ 1048575) : digits (l.set i x) := fun y hy => by
  rcases List.mem_or_eq_of_mem_set hy with hy | rfl
  · exact h y hy
  · exact hx
theorem digits.rep (n : Nat) : digits (List.replicate n 0) := fun x hx => by
  rw [List.mem_replicate] at hx; omega
theorem num_nonneg : ∀ {l : List Int}, digits l → 0 ≤ num l
  | [], _ => Int.le_refl _
  | d :: l, h => by have := num_nonneg h.tail; have := h.head; simp only [num]; omega
theorem pow_pos' (n : Nat) : (0 : Int) < 1048576 ^ n := Int.pow_pos (by decide)
theorem pow_mono' {m n : Nat} (h : m ≤ n) : (1048576 : Int) ^ m ≤ 1048576 ^ n := by
  obtain ⟨k, rfl⟩ := Nat.exists_eq_add_of_le h
  rw [Int.pow_add]
  have h1 := pow_pos' k
  have h2 := Int.mul_le_mul_of_nonneg_left (show (1 : Int) ≤ 1048576 ^ k by omega) (Int.le_of_lt (pow_pos' m))
  rwa [Int.mul_one] at h2
theorem num_lt : ∀ {l : List Int}, digits l → num l < 1048576 ^ l.length
  | [], _ => by simp [num]
  | d :: l, h => by
    have := num_lt h.tail
    have := h.head
    simp only [num, List.length_cons, Int.pow_succ]
    omega
theorem num_append : ∀ (l m : List Int), num (l ++ m) = num l + 1048576 ^ l.length * num m
  | [], m => by simp [num]
  | d :: l, m => by
    simp only [List.cons_append, num, List.length_cons, num_append l m, Int.pow_succ]
    rw [Int.mul_add, Int.mul_comm (1048576 ^ l.length) 1048576, Int.mul_assoc]
    omega
theorem num_rep (n : Nat) : num (List.replicate n 0) = 0 := by
  induction n with
  | zero => rfl
  | succ n ih => simp [List.replicate_succ, num, ih]
theorem num_take_succ : ∀ (l : List Int) (i : Nat), num (l.take (i + 1)) = num (l.take i) + 1048576 ^ i * l.getD i 0
  | [], i => by simp [num]
  | d :: l, 0 => by simp [num]
  | d :: l, i + 1 => by
    simp only [List.take_succ_cons, num, num_take_succ l i, List.getD_cons_succ, Int.pow_succ]
    rw [Int.mul_add, Int.mul_comm (1048576 ^ i) 1048576, Int.mul_assoc]
    omega
theorem num_set : ∀ (l : List Int) (i : Nat) (x : Int), i < l.length → num (l.set i x) = num l + 1048576 ^ i * (x - l.getD i 0)
  | [], i, x, h => by simp at h
  | d :: l, 0, x, _ => by simp [num]; omega
  | d :: l, i + 1, x, h => by
    simp only [List.set_cons_succ, num, num_set l i x (by simpa using h), List.getD_cons_succ, Int.pow_succ]
    rw [Int.mul_add, Int.mul_comm (1048576 ^ i) 1048576, Int.mul_assoc]
    omega
theorem num_split (l : List Int) (i : Nat) : num l = num (l.take i) + 1048576 ^ (l.take i).length * num (l.drop i) := by
  rw [← num_append, List.take_append_drop]
/-- zeros from i on -/
def zeroFrom (l : List Int) (i : Nat) : Prop := ∀ j, i ≤ j → l.getD j 0 = 0
theorem zeroFrom.rep (n : Nat) : zeroFrom (List.replicate n 0) 0 := fun j _ => by
  rw [List.getD_eq_getElem?_getD, List.getElem?_replicate]; split <;> rfl
theorem getD_set_self {l : List Int} {i : Nat} (x : Int) (h : i < l.length) : (l.set i x).getD i 0 = x := by
  rw [List.getD_eq_getElem?_getD, List.getElem?_set_self h]; rfl
theorem getD_set_ne' {l : List Int} {i j : Nat} (x : Int) (h : i ≠ j) : (l.set i x).getD j 0 = l.getD j 0 := by
  rw [List.getD_eq_getElem?_getD, List.getElem?_set_ne h, List.getD_eq_getElem?_getD]
theorem zeroFrom.set {l : List Int} {i : Nat} (h : zeroFrom l i) (x : Int) : zeroFrom (l.set i x) (i + 1) := fun j hj => by
  rw [getD_set_ne' x (by omega)]; exact h j (by omega)
theorem zeroFrom.set_lt {l : List Int} {i k : Nat} (h : zeroFrom l i) (x : Int) (hk : k < i) : zeroFrom (l.set k x) i := fun j hj => by
  rw [getD_set_ne' x (by omega)]; exact h j hj
theorem zeroFrom.mono {l : List Int} {i j : Nat} (h : zeroFrom l i) (hij : i ≤ j) : zeroFrom l j := fun k hk => h k (by omega)
theorem take_getD {l : List Int} {i n : Nat} (h : i < n) : (l.take n).getD i 0 = l.getD i 0 := by
  rw [List.getD_eq_getElem?_getD, List.getElem?_take_of_lt h, List.getD_eq_getElem?_getD]
theorem getD_ge {l : List Int} {i : Nat} (h : l.length ≤ i) : l.getD i 0 = 0 := by
  rw [List.getD_eq_getElem?_getD, List.getElem?_eq_none h]; rfl
theorem take_ge {l : List Int} {i : Nat} (h : l.length ≤ i) : l.take i = l := List.take_of_length_le h

/-- a digit is laid, the rest carried -/
theorem carry_set {o : List Int} {i : Nat} (hi : i < o.length) (s : Int) : num (o.set i (s % 1048576)) + 1048576 ^ (i + 1) * (s / 1048576) = num o + 1048576 ^ i * (s - o.getD i 0) := by
  rw [num_set o i _ hi, Int.pow_succ]
  have h := Int.emod_add_mul_ediv s 1048576
  generalize (1048576 : Int) ^ i = P
  generalize s % 1048576 = r at *
  generalize s / 1048576 = q at *
  generalize o.getD i 0 = z
  grind
/-! ### canonical digits -/
/-- no zero at the end -/
def norm (l : List Int) : Prop := l ≠ [] → l.getD (l.length - 1) 0 ≠ 0
theorem norm.nil : norm [] := fun h => absurd rfl h
theorem norm.tail {d : Int} {l : List Int} (h : norm (d :: l)) : norm l := fun hl => by
  have := h (by simp)
  have hp : 0 < l.length := List.length_pos_iff.2 hl
  rw [List.length_cons, show l.length + 1 - 1 = (l.length - 1) + 1 by omega, List.getD_cons_succ] at this
  exact this
theorem norm.pos : ∀ {l : List Int}, digits l → norm l → l ≠ [] → 0 < num l
  | [], _, _, h => absurd rfl h
  | d :: l, hd, hn, _ => by
    simp only [num]
    by_cases hl : l = []
    · subst hl
      have := hn (by simp)
      have h0 := hd.head
      simp at this
      simp only [num]; omega
    · have := norm.pos hd.tail hn.tail hl
      have h0 := hd.head
      omega
theorem num_inj : ∀ {l m : List Int}, digits l → norm l → digits m → norm m → num l = num m → l = m
  | [], [], _, _, _, _, _ => rfl
  | [], d :: m, _, _, hm, nm, h => by have := norm.pos hm nm (by simp); rw [← h] at this; simp [num] at this
  | d :: l, [], hl, nl, _, _, h => by have := norm.pos hl nl (by simp); rw [h] at this; simp [num] at this
  | d :: l, e :: m, hl, nl, hm, nm, h => by
    simp only [num] at h
    have h1 := hl.head
    have h2 := hm.head
    have hde : d = e := by omega
    have := num_inj hl.tail nl.tail hm.tail nm.tail (by omega)
    rw [hde, this]
/-- canonical digits -/
def dig (n : Nat) : List Int := if h : n = 0 then [] else ((n % 1048576 : Nat) : Int) :: dig (n / 1048576)
  termination_by n
  decreasing_by omega
theorem dig_zero : dig 0 = [] := by unfold dig; simp
theorem dig_pos {n : Nat} (h : n ≠ 0) : dig n = ((n % 1048576 : Nat) : Int) :: dig (n / 1048576) := by
  rw [dig]; simp [h]
theorem dig_all : ∀ n : Nat, digits (dig n) ∧ norm (dig n) ∧ num (dig n) = n ∧ (dig n = [] → n = 0) := by
  intro n
  induction n using Nat.strongRecOn with
  | ind n ih =>
    by_cases h : n = 0
    · subst h; rw [dig_zero]; exact ⟨digits.nil, norm.nil, rfl, fun _ => rfl⟩
    · rw [dig_pos h]
      obtain ⟨h1, h2, h3, h4⟩ := ih (n / 1048576) (by omega)
      refine ⟨digits.cons (by omega) h1, fun _ => ?_, by simp only [num, h3]; omega, fun e => by cases e⟩
      by_cases hn : dig (n / 1048576) = []
      · rw [hn]
        have := h4 hn
        simp; omega
      · have := h2 hn
        have hp : 0 < (dig (n / 1048576)).length := List.length_pos_iff.2 hn
        rw [List.length_cons, show (dig (n / 1048576)).length + 1 - 1 = ((dig (n / 1048576)).length - 1) + 1 by omega, List.getD_cons_succ]
        exact this
theorem dig_digits (n : Nat) : digits (dig n) := (dig_all n).1
theorem dig_norm (n : Nat) : norm (dig n) := (dig_all n).2.1
theorem num_dig (n : Nat) : num (dig n) = n := (dig_all n).2.2.1
theorem dig_nil {n : Nat} : dig n = [] ↔ n = 0 := ⟨(dig_all n).2.2.2, fun h => by rw [h, dig_zero]⟩
theorem dig_eq {l : List Int} (hd : digits l) (hn : norm l) : l = dig (num l).toNat :=
  num_inj hd hn (dig_digits _) (dig_norm _) (by rw [num_dig]; have := num_nonneg hd; omega)
theorem dig_eq' {l : List Int} {n : Int} (hd : digits l) (hn : norm l) (h : num l = n) : l = dig n.toNat := by rw [← h]; exact dig_eq hd hn
/-- how long they are -/
theorem dig_len {n k : Nat} (h : n < 1048576 ^ k) : (dig n).length ≤ k := by
  induction k generalizing n with
  | zero => have : n = 0 := by simpa using h
            subst this; rw [dig_zero]; exact Nat.le_refl _
  | succ k ih =>
    by_cases h0 : n = 0
    · subst h0; rw [dig_zero]; exact Nat.zero_le _
    · rw [dig_pos h0, List.length_cons]
      exact Nat.succ_le_succ (ih (by rw [Nat.pow_succ] at h; omega))
theorem len_dig {n k : Nat} (h : (dig n).length ≤ k) : n < 1048576 ^ k := by
  have h1 := num_lt (dig_digits n)
  rw [num_dig] at h1
  have h2 : (1048576 : Nat) ^ (dig n).length ≤ 1048576 ^ k := Nat.pow_le_pow_right (by decide) h
  have h3 : ((1048576 ^ (dig n).length : Nat) : Int) = 1048576 ^ (dig n).length := by simp
  omega

theorem dig_len_le {m n : Nat} (h : m ≤ n) : (dig m).length ≤ (dig n).length := dig_len (Nat.lt_of_le_of_lt h (len_dig (Nat.le_refl _)))
/-! ### trimming -/
/-- how many of the first n digits trim leaves -/
def trimN (L : List Int) : Nat → Nat
  | 0 => 0
  | n + 1 => if L.getD n 0 = 0 then trimN L n else n + 1
theorem trimN_le (L : List Int) : ∀ n, trimN L n ≤ n
  | 0 => Nat.le_refl _
  | n + 1 => by unfold trimN; split; exact Nat.le_succ_of_le (trimN_le L n); exact Nat.le_refl _
/-- digits without zeros at the end -/
def trimL (L : List Int) : List Int := L.take (trimN L L.length)
theorem trimL_len (L : List Int) : (trimL L).length = trimN L L.length := by
  have := trimN_le L L.length
  simp [trimL]; omega
theorem trimN_spec (L : List Int) : ∀ n, n ≤ L.length → norm (L.take (trimN L n)) ∧ num (L.take (trimN L n)) = num (L.take n)
  | 0, _ => by simp [trimN, norm]
  | n + 1, h => by
    unfold trimN
    split
    · rename_i h0
      obtain ⟨h1, h2⟩ := trimN_spec L n (by omega)
      refine ⟨h1, ?_⟩
      rw [h2, num_take_succ, h0]; simp
    · rename_i h0
      refine ⟨fun _ => ?_, rfl⟩
      rw [show (L.take (n + 1)).length - 1 = n by simp; omega, take_getD (by omega)]
      exact h0
theorem trimL_eq {L : List Int} (hd : digits L) : trimL L = dig (num L).toNat := by
  have h := trimN_spec L L.length (Nat.le_refl _)
  rw [List.take_length] at h
  exact dig_eq' (hd.take _) h.1 h.2
theorem trimL_eq' {L : List Int} {n : Int} (hd : digits L) (h : num L = n) : trimL L = dig n.toNat := by rw [← h]; exact trimL_eq hd
theorem trimL_dig (n : Nat) : trimL (dig n) = dig n := by rw [trimL_eq (dig_digits n), num_dig]; rfl
theorem trimL_le (L : List Int) : (trimL L).length ≤ L.length := by rw [trimL_len]; exact trimN_le _ _

/-! ### digits from the top down -/
theorem num_drop : ∀ (l : List Int) (n : Nat), num (l.drop n) = l.getD n 0 + 1048576 * num (l.drop (n + 1))
  | [], n => by simp [num]
  | d :: l, 0 => by simp [num]
  | d :: l, n + 1 => by simpa using num_drop l n
theorem drop_set_self {l : List Int} {i : Nat} (x : Int) (h : i < l.length) : (l.set i x).drop i = x :: l.drop (i + 1) := by
  rw [List.drop_set, if_neg (by omega), Nat.sub_self]
  cases hh : l.drop i with
  | nil => have := congrArg List.length hh; simp at this; omega
  | cons y r => rw [List.set_cons_zero, ← List.drop_drop, hh]; rfl
/-- -1, 0 or 1 -/
def ord (x y : Int) : Int := if x < y then -1 else if y < x then 1 else 0
theorem ord_len {a b : List Int} (ha : digits a) (na : norm a) (hb : digits b) (nb : norm b) (h : a.length < b.length) : num a < num b := by
  rw [dig_eq ha na, dig_eq hb nb] at h
  have h1 : ¬ (num b).toNat ≤ (num a).toNat := fun h2 => by have := dig_len_le h2; omega
  have := num_nonneg ha
  omega
theorem num_top {a b : List Int} (ha : digits a) (hb : digits b) (hl : a.length = b.length) (i : Nat) (hi : i < a.length) (h : a.drop (i + 1) = b.drop (i + 1)) (hlt : a.getD i 0 < b.getD i 0) : num a < num b := by
  rw [num_split a i, num_split b i, num_drop a, num_drop b, h]
  have h1 := num_lt (ha.take i)
  have h2 := num_nonneg (hb.take i)
  have e1 : (a.take i).length = i := by simp; omega
  have e2 : (b.take i).length = i := by simp; omega
  rw [e1] at h1 ⊢
  rw [e2]
  have hp := pow_pos' i
  generalize (1048576 : Int) ^ i = P at *
  generalize num (b.drop (i + 1)) = T
  have h3 : P * (a.getD i 0 + 1) ≤ P * b.getD i 0 := Int.mul_le_mul_of_nonneg_left (by omega) (by omega)
  rw [Int.mul_add, Int.mul_add]
  rw [Int.mul_add] at h3
  omega
/-- so many digits of a number -/
def fixd : Nat → Int → List Int
  | 0, _ => []
  | n + 1, z => z % 1048576 :: fixd n (z / 1048576)
theorem fixd_eq : ∀ {l : List Int}, digits l → l = fixd l.length (num l)
  | [], _ => rfl
  | d :: l, h => by
    have h1 := h.head
    have h2 := fixd_eq h.tail
    have e1 : (d + 1048576 * num l) % 1048576 = d := by omega
    have e2 : (d + 1048576 * num l) / 1048576 = num l := by omega
    simp only [List.length_cons, fixd, num, e1, e2]
    rw [← h2]
theorem fixd_eq' {l : List Int} {n : Nat} {z : Int} (h : digits l) (hn : l.length = n) (hz : num l = z) : l = fixd n z := by rw [← hn, ← hz]; exact fixd_eq h
theorem fixd_len : ∀ (n : Nat) (z : Int), (fixd n z).length = n
  | 0, _ => rfl
  | n + 1, z => by simp [fixd, fixd_len n]
theorem fixd_digits : ∀ (n : Nat) (z : Int), digits (fixd n z)
  | 0, _ => digits.nil
  | n + 1, z => digits.cons (by omega) (fixd_digits n _)
theorem num_fixd : ∀ (n : Nat) (z : Int), 0 ≤ z → z < 1048576 ^ n → num (fixd n z) = z
  | 0, z, h1, h2 => by simp at h2; simp [fixd, num]; omega
  | n + 1, z, h1, h2 => by
    rw [Int.pow_succ] at h2
    simp only [fixd, num]
    rw [num_fixd n (z / 1048576) (by omega) (by omega)]
    omega

/-! ### operations on bits -/
theorem and20 (n : Int) : iand .i64 n 1048575 = n % 1048576 := by
  unfold iand
  have h1 : (BitVec.ofInt IntKind.i64.bits n &&& BitVec.ofInt IntKind.i64.bits 1048575).toNat = (n % 1048576).toNat := by
    show (BitVec.ofInt 64 n &&& BitVec.ofInt 64 1048575).toNat = _
    rw [BitVec.toNat_and, BitVec.toNat_ofInt, BitVec.toNat_ofInt]
    have : ((1048575 : Int) % ((2 ^ 64 : Nat) : Int)).toNat = 2 ^ 20 - 1 := by decide
    rw [this, Nat.and_two_pow_sub_one_eq_mod]
    omega
  rw [h1, w64 (by omega)]
  omega
theorem and1 (n : Int) : iand .i64 n 1 = n % 2 := by
  unfold iand
  have h1 : (BitVec.ofInt IntKind.i64.bits n &&& BitVec.ofInt IntKind.i64.bits 1).toNat = (n % 2).toNat := by
    show (BitVec.ofInt 64 n &&& BitVec.ofInt 64 1).toNat = _
    rw [BitVec.toNat_and, BitVec.toNat_ofInt, BitVec.toNat_ofInt]
    have : ((1 : Int) % ((2 ^ 64 : Nat) : Int)).toNat = 2 ^ 1 - 1 := by decide
    rw [this, Nat.and_two_pow_sub_one_eq_mod]
    omega
  rw [h1, w64 (by omega)]
  omega
theorem shr20 (n : Int) : ishr .i64 n 20 = n / 1048576 := by
  unfold ishr
  have : (2 : Int) ^ (min (20 : Int).toNat IntKind.i64.bits) = 1048576 := by decide
  rw [this, Int.fdiv_eq_ediv_of_nonneg _ (by decide)]
theorem shl20 {n : Int} (h : -8796093022208 ≤ n ∧ n < 8796093022208) : ishl .i64 n 20 = n * 1048576 := by
  unfold ishl
  have : (2 : Int) ^ (min (20 : Int).toNat IntKind.i64.bits) = 1048576 := by decide
  rw [this, w64 (by omega)]
theorem or20 {a d : Int} (ha : 0 ≤ a ∧ a < 8796093022208) (hd : 0 ≤ d ∧ d ≤ 1048575) : ior .i64 (a * 1048576) d = a * 1048576 + d := by
  unfold ior
  have h1 : (BitVec.ofInt IntKind.i64.bits (a * 1048576) ||| BitVec.ofInt IntKind.i64.bits d).toNat = (a * 1048576 + d).toNat := by
    show (BitVec.ofInt 64 (a * 1048576) ||| BitVec.ofInt 64 d).toNat = _
    rw [BitVec.toNat_or, BitVec.toNat_ofInt, BitVec.toNat_ofInt]
    have e1 : ((a * 1048576) % ((2 ^ 64 : Nat) : Int)).toNat = a.toNat <<< 20 := by rw [Nat.shiftLeft_eq]; omega
    have e2 : (d % ((2 ^ 64 : Nat) : Int)).toNat = d.toNat := by omega
    rw [e1, e2, ← Nat.shiftLeft_add_eq_or_of_lt (by omega), Nat.shiftLeft_eq]
    omega
  rw [h1, w64 (by omega)]
  omega
end Go.Slot

/- Plain laws: the digit of a quotient. -/
namespace Go.Slot
open Go Go.RowKit
theorem num_top2 (l : List Int) (n : Nat) (hn : 2 ≤ n) (hl : l.length = n) : num l = (l.getD (n - 1) 0 * 1048576 + l.getD (n - 2) 0) * 1048576 ^ (n - 2) + num (l.take (n - 2)) := by
  obtain ⟨m, rfl⟩ : ∃ m, n = m + 2 := ⟨n - 2, by omega⟩
  have h1 := num_take_succ l (m + 1)
  have h2 := num_take_succ l m
  rw [take_ge (by omega)] at h1
  rw [h1, h2, show m + 2 - 1 = m + 1 by omega, show m + 2 - 2 = m by omega, Int.pow_succ]
  grind
theorem num_top3 (l : List Int) (n : Nat) (hn : 2 ≤ n) (hl : l.length = n + 1) :
    num l = ((l.getD n 0 * 1048576 + l.getD (n - 1) 0) * 1048576 + l.getD (n - 2) 0) * 1048576 ^ (n - 2) + num (l.take (n - 2)) := by
  obtain ⟨m, rfl⟩ : ∃ m, n = m + 2 := ⟨n - 2, by omega⟩
  have h1 := num_take_succ l (m + 2)
  have h2 := num_take_succ l (m + 1)
  have h3 := num_take_succ l m
  rw [take_ge (by omega)] at h1
  rw [h1, h2, h3, show m + 2 - 1 = m + 1 by omega, show m + 2 - 2 = m by omega, Int.pow_succ, Int.pow_succ]
  grind
section
variable {W V P t u2 v1 v2 w0 v0 g rest : Int}
theorem guess_init (hP : 0 < P) (hW : W = (t * 1048576 + u2) * P + w0) (hw : w0 < P) (hu : u2 ≤ 1048575) (hV : V = (v1 * 1048576 + v2) * P + v0) (hv0 : 0 ≤ v0) (hv2 : 0 ≤ v2) (hg : t + 1 ≤ (g + 1) * v1) (hg0 : 0 ≤ g) : W < (g + 1) * V := by
  have h1 : (t + 1) * 1048576 * P ≤ (g + 1) * v1 * 1048576 * P := Int.mul_le_mul_of_nonneg_right (Int.mul_le_mul_of_nonneg_right hg (by decide)) (Int.le_of_lt hP)
  have h2 : 0 ≤ (g + 1) * (v2 * P + v0) := Int.mul_nonneg (by omega) (Int.add_nonneg (Int.mul_nonneg hv2 (Int.le_of_lt hP)) hv0)
  have h3 : u2 * P ≤ 1048575 * P := Int.mul_le_mul_of_nonneg_right hu (Int.le_of_lt hP)
  have e1 : (g + 1) * V = (g + 1) * v1 * 1048576 * P + (g + 1) * (v2 * P + v0) := by rw [hV]; grind
  have e2 : (t * 1048576 + u2) * P = (t + 1) * 1048576 * P - 1048576 * P + u2 * P := by grind
  omega
theorem guess_low (hP : 0 < P) (hW : W = (t * 1048576 + u2) * P + w0) (hw : w0 < P) (hV : V = (v1 * 1048576 + v2) * P + v0) (hv0 : 0 ≤ v0) (hg0 : 0 ≤ g) (ht : t = g * v1 + rest) (hc : rest * 1048576 + u2 < g * v2) : W < g * V := by
  have h1 : (t * 1048576 + u2 + 1) * P ≤ g * (v1 * 1048576 + v2) * P := by
    apply Int.mul_le_mul_of_nonneg_right _ (Int.le_of_lt hP)
    have : g * (v1 * 1048576 + v2) = g * v1 * 1048576 + g * v2 := by grind
    omega
  have h2 : 0 ≤ g * v0 := Int.mul_nonneg hg0 hv0
  have e1 : g * V = g * (v1 * 1048576 + v2) * P + g * v0 := by rw [hV]; grind
  have e2 : (t * 1048576 + u2 + 1) * P = (t * 1048576 + u2) * P + P := by grind
  omega
theorem guess_high (hP : 0 < P) (hW : W = (t * 1048576 + u2) * P + w0) (hw : 0 ≤ w0) (hu2 : 0 ≤ u2) (hV : V = (v1 * 1048576 + v2) * P + v0) (hv0 : v0 < P) (hv1 : 1 ≤ v1) (hv2 : 0 ≤ v2 ∧ v2 ≤ 1048575) (hV0 : 0 < V) (hW0 : 0 ≤ W) (hg0 : 0 ≤ g) (hg1 : g ≤ 1048575) (ht : t = g * v1 + rest)
    (hc : 1048576 ≤ rest ∨ g * v2 ≤ rest * 1048576 + u2) : (g - 1) * V ≤ W := by
  by_cases h0 : g = 0
  · subst h0
    have : (0 - 1) * V = - V := by grind
    omega
  have hg : 0 ≤ g - 1 := by omega
  have hb : (g - 1) * (v1 * 1048576 + v2 + 1) ≤ t * 1048576 + u2 := by
    have e : (g - 1) * (v1 * 1048576 + v2 + 1) = g * v1 * 1048576 + g * v2 + g - v1 * 1048576 - v2 - 1 := by grind
    rcases hc with hc | hc
    · have h1 : g * v2 ≤ g * 1048575 := Int.mul_le_mul_of_nonneg_left hv2.2 hg0
      rw [e, ht]
      have : (g * v1 + rest) * 1048576 = g * v1 * 1048576 + rest * 1048576 := by grind
      omega
    · rw [e, ht]
      have : (g * v1 + rest) * 1048576 = g * v1 * 1048576 + rest * 1048576 := by grind
      omega
  have h1 : (g - 1) * (v1 * 1048576 + v2 + 1) * P ≤ (t * 1048576 + u2) * P := Int.mul_le_mul_of_nonneg_right hb (Int.le_of_lt hP)
  have h2 : (g - 1) * v0 ≤ (g - 1) * P := Int.mul_le_mul_of_nonneg_left (Int.le_of_lt hv0) hg
  have e1 : (g - 1) * V = (g - 1) * (v1 * 1048576 + v2 + 1) * P - (g - 1) * P + (g - 1) * v0 := by rw [hV]; grind
  omega
end
theorem num_ge {l : List Int} (hd : digits l) (hn : norm l) (h : l ≠ []) : 1048576 ^ (l.length - 1) ≤ num l := by
  have hp : 0 < l.length := List.length_pos_iff.2 h
  have h1 := num_take_succ l (l.length - 1)
  rw [take_ge (by omega)] at h1
  have h2 := num_nonneg (hd.take (l.length - 1))
  have h3 := hn h
  have h4 := hd.getD (l.length - 1)
  have h5 := Int.mul_le_mul_of_nonneg_left (show (1 : Int) ≤ l.getD (l.length - 1) 0 by omega) (Int.le_of_lt (pow_pos' (l.length - 1)))
  rw [Int.mul_one] at h5
  omega
theorem num_three (w : List Int) (i k : Nat) (h : i + k ≤ w.length) : num w = num (w.take i) + 1048576 ^ i * num ((w.drop i).take k) + 1048576 ^ (i + k) * num (w.drop (i + k)) := by
  have h1 := num_split w i
  have h2 := num_split (w.drop i) k
  have e1 : (w.take i).length = i := by simp; omega
  have e2 : ((w.drop i).take k).length = k := by simp; omega
  rw [e1] at h1
  rw [e2, List.drop_drop] at h2
  rw [h1, h2, Int.pow_add]
  grind
theorem num_four (w d : List Int) (i k : Nat) (h : i + k ≤ w.length) (hd : d.length = k) : num (w.take i ++ d ++ w.drop (i + k)) = num (w.take i) + 1048576 ^ i * num d + 1048576 ^ (i + k) * num (w.drop (i + k)) := by
  have e1 : (w.take i).length = i := by simp; omega
  rw [num_append, num_append, List.length_append, e1, hd]
theorem div_back {a b s q w : Int} (hs : 0 < s) (hb : 0 < b) (he : a * s = b * s * q + w) (h0 : 0 ≤ w) (h1 : w < b * s) : a / b = q ∧ a % b = w / s := by
  have hbs : 0 < b * s := Int.mul_pos hb hs
  have hq : a / b = q := by
    rw [← Int.mul_ediv_mul_of_pos_left a b hs, he, Int.add_comm, Int.add_mul_ediv_left _ _ (by omega), Int.ediv_eq_zero_of_lt h0 h1]
    omega
  refine ⟨hq, ?_⟩
  have h2 := Int.emod_add_mul_ediv a b
  rw [hq] at h2
  have h3 : w = (a % b) * s := by
    have : (a % b + b * q) * s = b * s * q + w := by rw [h2]; exact he
    have h4 : (a % b + b * q) * s = a % b * s + b * s * q := by grind
    omega
  rw [h3, Int.mul_ediv_cancel _ (by omega)]
theorem sub_getD {l : List Int} {i n k : Nat} (h : k < n) : ((l.drop i).take n).getD k 0 = l.getD (i + k) 0 := by
  rw [take_getD h, List.getD_eq_getElem?_getD, List.getElem?_drop, List.getD_eq_getElem?_getD]
end Go.Slot

/- Plain laws: signs, big integers as they lie in memory. -/
namespace Go.Slot
open Go Go.RowKit
def sg (z : Int) : Int := if z < 0 then -1 else if 0 < z then 1 else 0
theorem sg_pos {z : Int} (h : 0 < z) : sg z = 1 := by unfold sg; rw [if_neg (by omega), if_pos h]
theorem sg_neg {z : Int} (h : z < 0) : sg z = -1 := by unfold sg; rw [if_pos h]
theorem sg_zero : sg 0 = 0 := rfl
theorem sg_cases (z : Int) : (z < 0 ∧ sg z = -1) ∨ (z = 0 ∧ sg z = 0) ∨ (0 < z ∧ sg z = 1) := by
  rcases Int.lt_trichotomy z 0 with h | h | h
  · exact .inl ⟨h, sg_neg h⟩
  · exact .inr (.inl ⟨h, by rw [h]; rfl⟩)
  · exact .inr (.inr ⟨h, sg_pos h⟩)
/-- a right big integer -/
def zC (z : Int) : List Cell := [.raw (.int .i64 (sg z)), .ints .i64 (dig z.natAbs)]
def BigRight (s : Int) (L : List Int) : Prop := digits L ∧ ((L = [] ∧ s = 0) ∨ (L ≠ [] ∧ (s = 1 ∨ s = -1) ∧ L.getD (L.length - 1) 0 ≠ 0))
instance (s : Int) (L : List Int) : Decidable (BigRight s L) := inferInstanceAs (Decidable (_ ∧ _))
theorem bigRight_iff (s : Int) (L : List Int) : BigRight s L ↔ ∃ z : Int, s = sg z ∧ L = dig z.natAbs := by
  constructor
  · rintro ⟨hd, ⟨rfl, rfl⟩ | ⟨hne, hs, htop⟩⟩
    · exact ⟨0, rfl, by rw [show (0 : Int).natAbs = 0 from rfl, dig_zero]⟩
    · have hn : norm L := fun _ => htop
      have hp := norm.pos hd hn hne
      rcases hs with rfl | rfl
      · exact ⟨num L, (sg_pos hp).symm, by rw [show (num L).natAbs = (num L).toNat by omega]; exact dig_eq hd hn⟩
      · exact ⟨-num L, (sg_neg (by omega)).symm, by rw [show (-num L).natAbs = (num L).toNat by omega]; exact dig_eq hd hn⟩
  · rintro ⟨z, rfl, rfl⟩
    refine ⟨dig_digits _, ?_⟩
    rcases sg_cases z with ⟨h, e⟩ | ⟨h, e⟩ | ⟨h, e⟩
    · exact .inr ⟨fun h' => by have := dig_nil.1 h'; omega, .inr e, dig_norm _ (fun h' => by have := dig_nil.1 h'; omega)⟩
    · exact .inl ⟨by rw [h, show (0 : Int).natAbs = 0 from rfl, dig_zero], e⟩
    · exact .inr ⟨fun h' => by have := dig_nil.1 h'; omega, .inl e, dig_norm _ (fun h' => by have := dig_nil.1 h'; omega)⟩
theorem bigRight_z (z : Int) : BigRight (sg z) (dig z.natAbs) := (bigRight_iff _ _).2 ⟨z, rfl, rfl⟩
/-- so many digits at the most -/
def fits (k : Nat) (z : Int) : Prop := (dig z.natAbs).length ≤ k
theorem num_abs (z : Int) : num (dig z.natAbs) = z.natAbs := num_dig _
theorem dig_len_add (a b : Nat) : (dig (a + b)).length ≤ max (dig a).length (dig b).length + 1 := by
  apply dig_len
  have h1 := len_dig (n := a) (k := max (dig a).length (dig b).length) (Nat.le_max_left _ _)
  have h2 := len_dig (n := b) (k := max (dig a).length (dig b).length) (Nat.le_max_right _ _)
  rw [Nat.pow_succ]
  omega
theorem dig_len_mul (a b : Nat) : (dig (a * b)).length ≤ (dig a).length + (dig b).length := by
  apply dig_len
  rw [Nat.pow_add]
  have h1 := len_dig (n := a) (Nat.le_refl _)
  have h2 := len_dig (n := b) (Nat.le_refl _)
  exact Nat.mul_lt_mul_of_lt_of_lt h1 h2
theorem len_add (x y : Int) : (dig (x + y).natAbs).length ≤ max (dig x.natAbs).length (dig y.natAbs).length + 1 :=
  Nat.le_trans (dig_len_le (by omega)) (dig_len_add x.natAbs y.natAbs)
theorem len_mul (x y : Int) : (dig (x * y).natAbs).length ≤ (dig x.natAbs).length + (dig y.natAbs).length := by
  rw [Int.natAbs_mul]; exact dig_len_mul _ _
theorem ediv_of {x y q r : Int} (h : x = y * q + r) (h0 : 0 ≤ r) (h1 : r < y) : x / y = q ∧ x % y = r := by
  rw [h, Int.add_comm]
  refine ⟨?_, ?_⟩
  · rw [Int.add_mul_ediv_left _ _ (by omega), Int.ediv_eq_zero_of_lt h0 h1]; omega
  · rw [Int.add_mul_emod_self_left, Int.emod_eq_of_lt h0 h1]
/-- signed puts a sign to a magnitude -/
theorem zC_of {s z : Int} (h : (s = 1 ∧ 0 ≤ z) ∨ (s = -1 ∧ z ≤ 0) ∨ z = 0) : [Cell.raw (.int .i64 (if trimL (dig z.natAbs) = [] then 0 else s)), Cell.ints .i64 (trimL (dig z.natAbs))] = zC z := by
  rw [trimL_dig]
  unfold zC
  by_cases h0 : z = 0
  · subst h0; rw [if_pos (by rw [show (0 : Int).natAbs = 0 from rfl, dig_zero])]; rfl
  · rw [if_neg (fun h' => by have := dig_nil.1 h'; omega)]
    rcases h with ⟨rfl, h⟩ | ⟨rfl, h⟩ | h
    · rw [sg_pos (by omega)]
    · rw [sg_neg (by omega)]
    · exact absurd h h0
theorem ord_sg (x y : Int) (h : sg x ≠ sg y) : ord (sg x) (sg y) = ord x y := by
  rcases sg_cases x with ⟨h1, e1⟩ | ⟨h1, e1⟩ | ⟨h1, e1⟩ <;> rcases sg_cases y with ⟨h2, e2⟩ | ⟨h2, e2⟩ | ⟨h2, e2⟩ <;> rw [e1, e2] at h ⊢ <;> unfold ord <;> first | (exact absurd rfl h) | (repeat' split) <;> omega
theorem ord_mul (x y : Int) (h : sg x = sg y) : sg x * ord (num (dig x.natAbs)) (num (dig y.natAbs)) = ord x y := by
  rw [num_abs, num_abs]
  rcases sg_cases x with ⟨h1, e1⟩ | ⟨h1, e1⟩ | ⟨h1, e1⟩ <;> rcases sg_cases y with ⟨h2, e2⟩ | ⟨h2, e2⟩ | ⟨h2, e2⟩ <;> rw [e1] at h ⊢ <;> rw [e2] at h <;> first | omega | (unfold ord; (repeat' split) <;> omega)
end Go.Slot

/- Contracts of package big, first part. -/
namespace Go.Slot.T
open Go Go.RowKit Go.Slot
open Go.Proofs.Try (prog)
set_option maxRecDepth 10000
set_option maxHeartbeats 2000000

theorem cRight (s : Int) (L : List Int) (hL : L.length < 4611686018427387904) : CallsTo prog 38 [.agg [.raw (.int .i64 s), .ints .i64 L]] (.one (.raw (.bool (decide (BigRight s L))))) := by
  refine CallsTo.run [] Go.Proofs.Try.func38 rfl rfl ?_
  conv => simp (disch := omega) only [go_sem, Go.Proofs.Try.f38, List.replicate]
  refine loopk (fun i : Nat => [(5, .any), (12, .one (.raw (.int .i64 i))), (13, .any), (14, .any), (15, .any), (16, .any), (17, .any), (18, .any), (19, .any), (20, .any), (21, .any), (22, .any)])
    (fun i => i ≤ L.length ∧ digits (L.take i)) (fun i => L.length - i) 0 ⟨by omega, by simp [digits]⟩ ?_ ?_
  · simp only [go_sem]
    exact StLe.weaken (by repeat' first | exact .nil | refine .cons (by first | exact .refl _ | exact .any _) ?_) rfl
  intro i ⟨hi, hd⟩
  conv => simp (disch := omega) only [go_sem]
  refine condd (fun h => ?_) (fun h => ?_)
  · have hi' : i < L.length := by omega
    have hget : L.getD i 0 = L[i] := by simp [hi']
    have hmem : L[i] ∈ L := List.getElem_mem hi'
    have hbad : ¬ (0 ≤ L.getD i 0 ∧ L.getD i 0 ≤ 1048575) → ¬ BigRight s L := fun hn hr => hn (by rw [hget]; exact hr.1 _ hmem)
    conv => simp (disch := omega) only [go_sem, ite_t]
    refine guardn (fun h1 => ?_) (fun h1 => ?_)
    · conv => simp (disch := omega) only [go_sem, ite_t, h1]
      refine condd (fun h2 => ?_) (fun h2 => ?_)
      · conv => simp (disch := omega) only [go_sem, ite_t]
        refine ⟨_, rfl, ?_⟩
        rw [decide_eq_false (hbad (by omega))]
        exact .one (.refl _)
      · conv => simp (disch := omega) only [go_sem, ite_t, w64]
        refine ⟨i + 1, ⟨by omega, ?_⟩, by omega, ?_⟩
        · intro x hx
          rw [List.take_add_one, List.mem_append] at hx
          rcases hx with hx | hx
          · exact hd x hx
          · simp [hi'] at hx
            subst hx
            rw [← hget]; omega
        · exact StLe.weaken (by repeat' first | exact .nil | refine .cons (by first | exact .refl _ | exact .any _) ?_) rfl
    · conv => simp (disch := omega) only [go_sem, ite_t, h1]
      refine ⟨_, rfl, ?_⟩
      rw [decide_eq_false (hbad (by omega))]
      exact .one (.refl _)
  · have hi' : i = L.length := by omega
    have hdig : digits L := by rw [hi', List.take_length] at hd; exact hd
    conv => simp (disch := omega) only [go_sem, ite_t]
    refine condd (fun h1 => ?_) (fun h1 => ?_)
    · have hnil : L = [] := by have : L.length = 0 := by omega
                               simpa using this
      conv => simp (disch := omega) only [go_sem, ite_t]
      refine ⟨_, rfl, ?_⟩
      have : decide (BigRight s L) = decide (s = 0) := by
        apply decide_eq_decide.2
        simp [BigRight, hnil, digits]
      rw [this]
      exact .one (.refl _)
    · have hne : L ≠ [] := fun e => h1 (by rw [e]; rfl)
      have hpos : 0 < L.length := List.length_pos_iff.2 hne
      conv => simp (disch := omega) only [go_sem, ite_t]
      have hlast : (s = 1 ∨ s = -1) → decide (BigRight s L) = decide (L.getD (L.length - 1) 0 ≠ 0) := fun hs => by
        apply decide_eq_decide.2
        simp only [BigRight]
        constructor
        · rintro ⟨_, ⟨h4, _⟩ | ⟨_, _, h4⟩⟩
          · exact absurd h4 hne
          · exact h4
        · exact fun h4 => ⟨hdig, .inr ⟨hne, hs, h4⟩⟩
      have e : ((L.length : Int) - 1).toNat = L.length - 1 := by omega
      refine guardn (fun h2 => ?_) (fun h2 => ?_)
      · conv => simp (disch := omega) only [go_sem, ite_t, h2]
        refine guardd (fun h3 => ?_) (fun h3 => ?_)
        · subst h3
          conv => simp (disch := omega) only [go_sem, ite_t, w64, e]
          refine ⟨_, rfl, ?_⟩
          rw [hlast (.inr rfl)]
          exact .one (.refl _)
        · conv => simp (disch := omega) only [go_sem, ite_t, h3]
          refine ⟨_, rfl, ?_⟩
          have : ¬ BigRight s L := by
            rintro ⟨_, ⟨h4, _⟩ | ⟨_, h4, _⟩⟩
            · exact hne h4
            · omega
          rw [decide_eq_false this]
          exact .one (.refl _)
      · subst h2
        conv => simp (disch := omega) only [go_sem, ite_t, w64, e]
        refine ⟨_, rfl, ?_⟩
        rw [hlast (.inl rfl)]
        exact .one (.refl _)
end Go.Slot.T

/- Contracts of package big: trim. -/
namespace Go.Slot.T
open Go Go.RowKit Go.Slot
open Go.Proofs.Try (prog)
set_option maxRecDepth 10000
set_option maxHeartbeats 2000000

theorem cTrim (L : List Int) (hL : L.length < 4611686018427387904) : CallsTo prog 87 [.one (.ints .i64 L)] (.one (.ints .i64 (L.take (trimN L L.length)))) := by
  refine CallsTo.run [] Go.Proofs.Try.func87 rfl rfl ?_
  conv => simp (disch := omega) only [go_sem, Go.Proofs.Try.f87, List.replicate]
  refine loopk (fun n : Nat => [(3, .one (.raw (.int .i64 n))), (6, .any), (7, .any), (8, .any), (9, .any), (10, .any), (11, .any), (12, .any), (13, .any), (14, .any), (15, .any), (16, .any), (17, .any)])
    (fun n => n ≤ L.length ∧ trimN L L.length = trimN L n) (fun n => n) L.length ⟨Nat.le_refl _, rfl⟩ ?_ ?_
  · simp only [go_sem]
    exact StLe.weaken (by repeat' first | exact .nil | refine .cons (by first | exact .refl _ | exact .any _) ?_) rfl
  intro n ⟨hn, ht⟩
  conv => simp (disch := omega) only [go_sem]
  have done : trimN L L.length = n → ((n : Int)).toNat = trimN L L.length := fun h => by omega
  refine guardd (fun h => ?_) (fun h => ?_)
  · obtain ⟨m, rfl⟩ : ∃ m, n = m + 1 := ⟨n - 1, by omega⟩
    have e : ((m + 1 : Nat) : Int) - 1 = (m : Nat) := by omega
    conv => simp (disch := omega) only [go_sem, ite_t, h, w64, e]
    refine condd (fun h2 => ?_) (fun h2 => ?_)
    · conv => simp (disch := omega) only [go_sem, ite_t, h, w64, e]
      refine ⟨m, ⟨by omega, by rw [ht]; simp only [trimN]; rw [if_pos h2]⟩, by omega, ?_⟩
      exact StLe.weaken (by repeat' first | exact .nil | refine .cons (by first | exact .refl _ | exact .any _) ?_) rfl
    · have hfin : trimN L L.length = m + 1 := by rw [ht]; simp only [trimN]; rw [if_neg h2]
      conv => simp (disch := omega) only [go_sem, ite_t, h, w64, e]
      refine ⟨_, rfl, ?_⟩
      rw [hfin]
      exact .one (.refl _)
  · have h0 : n = 0 := by omega
    subst h0
    conv => simp (disch := omega) only [go_sem, ite_t, h, w64]
    refine ⟨_, rfl, ?_⟩
    rw [ht]
    exact .one (.refl _)
/-- the same of an own slice: a window of it comes back -/
theorem xTrim (pre : List Value) (q : List Value) (L : List Int) (hL : L.length < 4611686018427387904) : CallsX prog 87 [.arr pre (.ints .i64 L) (some q)] 0 (.arr pre (.ints .i64 L) (some q)) (.awn 0 1 0 (trimN L L.length)) := by
  refine CallsX.run [] Go.Proofs.Try.func87 rfl rfl (fun t h => h) ?_
  conv => simp (disch := omega) only [go_sem, Go.Proofs.Try.f87, List.replicate]
  refine loopk (fun n : Nat => [(3, .one (.raw (.int .i64 n))), (6, .any), (7, .any), (8, .any), (9, .any), (10, .any), (11, .any), (12, .any), (13, .any), (14, .any), (15, .any), (16, .any), (17, .any)])
    (fun n => n ≤ L.length ∧ trimN L L.length = trimN L n) (fun n => n) L.length ⟨Nat.le_refl _, rfl⟩ ?_ ?_
  · simp only [go_sem]
    exact StLe.weaken (by repeat' first | exact .nil | refine .cons (by first | exact .refl _ | exact .any _) ?_) rfl
  intro n ⟨hn, ht⟩
  conv => simp (disch := omega) only [go_sem]
  have done : trimN L L.length = n → ((n : Int)).toNat = trimN L L.length := fun h => by omega
  refine guardd (fun h => ?_) (fun h => ?_)
  · obtain ⟨m, rfl⟩ : ∃ m, n = m + 1 := ⟨n - 1, by omega⟩
    have e : ((m + 1 : Nat) : Int) - 1 = (m : Nat) := by omega
    conv => simp (disch := omega) only [go_sem, ite_t, h, w64, e]
    refine condd (fun h2 => ?_) (fun h2 => ?_)
    · conv => simp (disch := omega) only [go_sem, ite_t, h, w64, e]
      refine ⟨m, ⟨by omega, by rw [ht]; simp only [trimN]; rw [if_pos h2]⟩, by omega, ?_⟩
      exact StLe.weaken (by repeat' first | exact .nil | refine .cons (by first | exact .refl _ | exact .any _) ?_) rfl
    · have hfin : trimN L L.length = m + 1 := by rw [ht]; simp only [trimN]; rw [if_neg h2]
      conv => simp (disch := omega) only [go_sem, ite_t, h, w64, e]
      exact ⟨rfl, rfl, rfl, 2, rfl, by rw [hfin]; rfl⟩
  · have h0 : n = 0 := by omega
    subst h0
    conv => simp (disch := omega) only [go_sem, ite_t, h, w64]
    exact ⟨rfl, rfl, rfl, 2, rfl, by rw [ht]; rfl⟩
theorem trimX (L : List Int) (n : Nat) (hn : n = L.length) (hL : L.length < 4611686018427387904) : CallX prog 87 [.any] 0 (.wn (.ints .i64 L) 0 n) (.wn (.ints .i64 L) 0 n) (.awn 0 1 0 (trimN L L.length)) := fun pre q => by
  have : (Cell.ints .i64 L).sub 0 n = .ints .i64 L := by simp [Cell.sub, hn]
  rw [this]
  exact xTrim pre q L hL
/-- what is left of an own slice -/
theorem trim_own {L : List Int} {n : Int} (hd : digits L) (h : num L = n) : AV.arr [] (.ints .i64 (L.take (trimN L L.length))) none = .arr [] (.ints .i64 (dig n.toNat)) none := by
  rw [← trimL_eq' hd h]; rfl
end Go.Slot.T

/- Contracts of package big: signed, checked. -/
namespace Go.Slot.T
open Go Go.RowKit Go.Slot
open Go.Proofs.Try (prog)
set_option maxRecDepth 10000
set_option maxHeartbeats 2000000

/-- a big integer's cells -/
def bigC (s : Int) (L : List Int) : List Cell := [.raw (.int .i64 s), .ints .i64 L]

theorem cSigned (s : Int) (L : List Int) (hL : L.length < 4611686018427387904) :
    CallsTo prog 69 [.one (.raw (.int .i64 s)), .one (.ints .i64 L)] (.agg (bigC (if trimL L = [] then 0 else s) (trimL L))) := by
  refine CallsTo.run [] Go.Proofs.Try.func69 rfl rfl ?_
  conv => simp (disch := omega) only [go_sem, Go.Proofs.Try.f69, List.replicate]
  refine callk (cTrim L hL) ?_
  rw [show L.take (trimN L L.length) = trimL L from rfl]
  conv => simp (disch := omega) only [go_sem]
  refine condd (fun h => ?_) (fun h => ?_)
  · have h0 : trimL L = [] := by have : (trimL L).length = 0 := by omega
                                 simpa using this
    conv => simp (disch := omega) only [go_sem, ite_t]
    refine ⟨_, rfl, ?_⟩
    rw [h0]
    exact .one (.agg (.cons (.refl _) (.cons (.zcInts _) .nil)))
  · have h0 : trimL L ≠ [] := fun e => h (by rw [e]; rfl)
    conv => simp (disch := omega) only [go_sem, ite_t]
    refine ⟨_, rfl, ?_⟩
    try rw [if_neg h0]
    exact .one (.refl _)

theorem cChecked (b : Bool) (s : Int) (L : List Int) :
    CallsTo prog 66 [.one (.raw (.bool b)), .agg (bigC s L)] (.tup [.agg (if b then bigC s L else bigC 0 []), .one (.raw (.int .i64 (if b then 0 else 1)))]) := by
  refine CallsTo.run [] Go.Proofs.Try.func66 rfl rfl ?_
  conv => simp (disch := omega) only [go_sem, Go.Proofs.Try.f66, List.replicate, bigC]
  refine condk (fun h => ?_) (fun h => ?_)
  · have h : b = false := by simpa using h
    subst h
    conv => simp (disch := omega) only [go_sem, ite_t]
    refine ⟨_, rfl, ?_⟩
    exact .tup (.cons (.agg (.cons (.refl _) (.cons (.zcInts _) .nil))) (.cons (.refl _) .nil))
  · have h : b = true := by simpa using h
    subst h
    conv => simp (disch := omega) only [go_sem, ite_t]
    refine ⟨_, rfl, ?_⟩
    exact .tup (.cons (.refl _) (.cons (.refl _) .nil))
end Go.Slot.T

/- Contracts of slices.Clone. -/
namespace Go.Slot.T
open Go Go.RowKit Go.Slot
open Go.Proofs.Try (prog)
set_option maxRecDepth 10000
set_option maxHeartbeats 2000000

theorem cClone0 : CallsTo prog 67 [.one (.ints .i64 [])] (.one (.ints .i64 [])) := by
  refine CallsTo.nilInts (fun b => ?_)
  refine CallsTo.run [] Go.Proofs.Try.func67 rfl rfl ?_
  conv => simp (disch := omega) only [go_sem, Go.Proofs.Try.f67, List.replicate]
  refine condk (fun h => ?_) (fun h => ?_)
  · conv => simp (disch := omega) only [go_sem, ite_t]
    exact ⟨_, rfl, .one (.one (.nilInts _))⟩
  · conv => simp (disch := omega) only [go_sem, ite_t]
    exact ⟨_, rfl, .one (.refl _)⟩
theorem cClone1 (L : List Int) (h0 : 0 < L.length) (hL : L.length ≤ 17592186044416) : CallsTo prog 67 [.one (.ints .i64 L)] (.arr [] (.ints .i64 L) none) := by
  refine CallsTo.run [] Go.Proofs.Try.func67 rfl rfl ?_
  conv => simp (disch := omega) only [go_sem, Go.Proofs.Try.f67, List.replicate, ite_t]
  exact ⟨_, rfl, .one (.refl _)⟩
theorem cClone (L : List Int) (hL : L.length ≤ 17592186044416) : CallsTo prog 67 [.one (.ints .i64 L)] (.one (.ints .i64 L)) := by
  by_cases h : L = []
  · subst h; exact cClone0
  · exact (cClone1 L (List.length_pos_iff.2 h) hL).le .own
end Go.Slot.T

/- Contracts of package big: add. -/
namespace Go.Slot.T
open Go Go.RowKit Go.Slot
open Go.Proofs.Try (prog)
set_option maxRecDepth 10000
set_option maxHeartbeats 2000000

theorem cAdd' (a b : List Int) (ha : digits a) (hb : digits b) (la : a.length ≤ 1099511627776) (lb : b.length ≤ 1099511627776) :
    CallsTo prog 94 [.one (.ints .i64 a), .one (.ints .i64 b)] (.one (.ints .i64 (dig (num a + num b).toNat))) := by
  refine CallsTo.run [(3, [.join])] Go.Proofs.Try.func94 rfl rfl ?_; conv => simp (maxSteps := 2000000) (disch := omega) only [go_sem, Nat.reduceAdd, Nat.reduceSub, Nat.reduceMul, Int.reduceToNat, Nat.reduceEqDiff, Nat.reduceBEq, Nat.reduceBneDiff, Go.Proofs.Try.f94, List.replicate]
  refine joino [0, 1] (fun p : List Int × List Int => [(0, .one (.ints .i64 p.1)), (1, .one (.ints .i64 p.2))])
    (fun p => p.2.length ≤ p.1.length ∧ digits p.1 ∧ digits p.2 ∧ num p.1 + num p.2 = num a + num b ∧ p.1.length ≤ 1099511627776) ?_ ?_
  · conv => simp (maxSteps := 2000000) (disch := omega) only [go_sem, Nat.reduceAdd, Nat.reduceSub, Nat.reduceMul, Int.reduceToNat, Nat.reduceEqDiff, Nat.reduceBEq, Nat.reduceBneDiff]
    refine condd (fun h => ?_) (fun h => ?_)
    · conv => simp (maxSteps := 2000000) (disch := omega) only [go_sem, Nat.reduceAdd, Nat.reduceSub, Nat.reduceMul, Int.reduceToNat, Nat.reduceEqDiff, Nat.reduceBEq, Nat.reduceBneDiff]
      exact ⟨(b, a), ⟨by dsimp only; omega, hb, ha, Int.add_comm _ _, lb⟩, StLe.weaken (by repeat' first | exact .nil | refine .cons (by first | exact .refl _ | exact .any _) ?_) rfl⟩
    · conv => simp (maxSteps := 2000000) (disch := omega) only [go_sem, Nat.reduceAdd, Nat.reduceSub, Nat.reduceMul, Int.reduceToNat, Nat.reduceEqDiff, Nat.reduceBEq, Nat.reduceBneDiff]
      exact ⟨(a, b), ⟨by dsimp only; omega, ha, hb, rfl, la⟩, StLe.weaken (by repeat' first | exact .nil | refine .cons (by first | exact .refl _ | exact .any _) ?_) rfl⟩
  rintro ⟨p, q⟩ ⟨hle, hp, hq, hs, hl⟩
  simp only at hle hp hq hs hl
  conv => simp (maxSteps := 2000000) (disch := omega) only [go_sem, Nat.reduceAdd, Nat.reduceSub, Nat.reduceMul, Int.reduceToNat, Nat.reduceEqDiff, Nat.reduceBEq, Nat.reduceBneDiff]
  refine loopo [0, 1, 5, 20, 21] (fun x : Nat × List Int × Int => [(6, .one (.raw (.int .i64 x.2.2))), (19, .arr [] (.ints .i64 x.2.1) none), (22, .one (.raw (.int .i64 x.1)))])
    (fun x => x.1 ≤ p.length ∧ x.2.1.length = p.length + 1 ∧ digits x.2.1 ∧ zeroFrom x.2.1 x.1 ∧ (0 ≤ x.2.2 ∧ x.2.2 ≤ 1) ∧ num x.2.1 + 1048576 ^ x.1 * x.2.2 = num (p.take x.1) + num (q.take x.1))
    (fun x => p.length - x.1) (0, List.replicate ((p.length : Int) + 1).toNat 0, 0)
    ⟨Nat.zero_le _, by simp, digits.rep _, zeroFrom.rep _, by simp, by simp [num_rep, num]⟩ ?_ ?_
  · conv => simp (maxSteps := 2000000) (disch := omega) only [go_sem, Nat.reduceAdd, Nat.reduceSub, Nat.reduceMul, Int.reduceToNat, Nat.reduceEqDiff, Nat.reduceBEq, Nat.reduceBneDiff]
    exact StLe.weaken (by repeat' first | exact .nil | refine .cons (by first | exact .refl _ | exact .any _) ?_) rfl
  rintro ⟨i, o, c⟩ ⟨hi, ho, hdo, hz, hc, hn⟩
  simp only at hi ho hdo hz hc hn
  conv => simp (maxSteps := 2000000) (disch := omega) only [go_sem, Nat.reduceAdd, Nat.reduceSub, Nat.reduceMul, Int.reduceToNat, Nat.reduceEqDiff, Nat.reduceBEq, Nat.reduceBneDiff]
  refine condd (fun h => ?_) (fun h => ?_)
  · have hpi := hp.getD i
    have hqi := hq.getD i
    conv => simp (maxSteps := 2000000) (disch := omega) only [go_sem, Nat.reduceAdd, Nat.reduceSub, Nat.reduceMul, Int.reduceToNat, Nat.reduceEqDiff, Nat.reduceBEq, Nat.reduceBneDiff]
    have hz0 := hz i (Nat.le_refl _)
    have key : ∀ s : Int, s = c + p.getD i 0 + q.getD i 0 → num (o.set i (s % 1048576)) + 1048576 ^ (i + 1) * (s / 1048576) = num (p.take (i + 1)) + num (q.take (i + 1)) := fun s hs => by
      rw [carry_set (by omega) s, num_take_succ, num_take_succ, hz0, hs]
      grind
    refine condd (fun h1 => ?_) (fun h1 => ?_)
    · conv => simp (maxSteps := 2000000) (disch := omega) only [go_sem, Nat.reduceAdd, Nat.reduceSub, Nat.reduceMul, Int.reduceToNat, Nat.reduceEqDiff, Nat.reduceBEq, Nat.reduceBneDiff, and20, shr20]
      exact ⟨(i + 1, o.set i ((c + p.getD i 0 + q.getD i 0) % 1048576), (c + p.getD i 0 + q.getD i 0) / 1048576),
        ⟨by dsimp only; omega, by simpa using ho, hdo.set i (by omega), hz.set _, by dsimp only; omega, key _ rfl⟩, by dsimp only; omega, StLe.weaken (by repeat' first | exact .nil | refine .cons (by first | exact .refl _ | exact .any _) ?_) rfl⟩
    · conv => simp (maxSteps := 2000000) (disch := omega) only [go_sem, Nat.reduceAdd, Nat.reduceSub, Nat.reduceMul, Int.reduceToNat, Nat.reduceEqDiff, Nat.reduceBEq, Nat.reduceBneDiff, and20, shr20]
      have hq0 := getD_ge (l := q) (i := i) (by omega)
      exact ⟨(i + 1, o.set i ((c + p.getD i 0) % 1048576), (c + p.getD i 0) / 1048576),
        ⟨by dsimp only; omega, by simpa using ho, hdo.set i (by omega), hz.set _, by dsimp only; omega, key _ (by omega)⟩, by dsimp only; omega, StLe.weaken (by repeat' first | exact .nil | refine .cons (by first | exact .refl _ | exact .any _) ?_) rfl⟩
  · conv => simp (maxSteps := 2000000) (disch := omega) only [go_sem, Nat.reduceAdd, Nat.reduceSub, Nat.reduceMul, Int.reduceToNat, Nat.reduceEqDiff, Nat.reduceBEq, Nat.reduceBneDiff]
    have hip : i = p.length := by omega
    subst hip
    have hlen : (o.set p.length c).length < 4611686018427387904 := by simp; omega
    have hnum : num (o.set p.length c) = num a + num b := by
      rw [num_set _ _ _ (by omega), hz _ (Nat.le_refl _), ← hs]
      rw [take_ge (Nat.le_refl _), take_ge hle] at hn
      rw [← hn]; grind
    have hdig : digits (o.set p.length c) := hdo.set _ (by omega)
    rw [show o.length = (o.set p.length c).length by simp]
    generalize o.set p.length c = r at *
    have htr := trimN_le r r.length
    refine ownk (trimX r _ rfl hlen) ?_
    conv => simp (maxSteps := 2000000) (disch := omega) only [go_sem, Nat.reduceAdd, Nat.reduceSub, Nat.reduceMul, Int.reduceToNat, Nat.reduceEqDiff, Nat.reduceBEq, Nat.reduceBneDiff]
    exact ⟨_, rfl, by rw [trim_own hdig hnum]; exact .own⟩
end Go.Slot.T

/- Contracts of package big: sub. -/
namespace Go.Slot.T
open Go Go.RowKit Go.Slot
open Go.Proofs.Try (prog)
set_option maxRecDepth 10000
set_option maxHeartbeats 2000000

theorem cSub' (a b : List Int) (ha : digits a) (hb : digits b) (la : a.length ≤ 1099511627776) (hlen : b.length ≤ a.length) (hle : num b ≤ num a) :
    CallsTo prog 95 [.one (.ints .i64 a), .one (.ints .i64 b)] (.one (.ints .i64 (dig (num a - num b).toNat))) := by
  by_cases hnil : a = []
  · subst hnil
    have hb0 : b = [] := List.eq_nil_of_length_eq_zero (by simpa using hlen)
    subst hb0
    refine CallsTo.run [] Go.Proofs.Try.func95 rfl rfl ?_; conv => simp (maxSteps := 2000000) (disch := omega) only [go_sem, Nat.reduceAdd, Nat.reduceSub, Nat.reduceMul, Int.reduceToNat, Nat.reduceEqDiff, Nat.reduceBEq, Nat.reduceBneDiff, Go.Proofs.Try.f95, List.replicate]
    refine callk cClone0 ?_
    conv => simp (maxSteps := 2000000) (disch := omega) only [go_sem, Nat.reduceAdd, Nat.reduceSub, Nat.reduceMul, Int.reduceToNat, Nat.reduceEqDiff, Nat.reduceBEq, Nat.reduceBneDiff]
    refine loopk (fun _ : Unit => [(14, .any)]) (fun _ => True) (fun _ => 0) () trivial ?_ ?_
    · conv => simp (maxSteps := 2000000) (disch := omega) only [go_sem, Nat.reduceAdd, Nat.reduceSub, Nat.reduceMul, Int.reduceToNat, Nat.reduceEqDiff, Nat.reduceBEq, Nat.reduceBneDiff]
      exact StLe.weaken (by repeat' first | exact .nil | refine .cons (by first | exact .refl _ | exact .any _) ?_) rfl
    rintro ⟨⟩ _
    conv => simp (maxSteps := 2000000) (disch := omega) only [go_sem, Nat.reduceAdd, Nat.reduceSub, Nat.reduceMul, Int.reduceToNat, Nat.reduceEqDiff, Nat.reduceBEq, Nat.reduceBneDiff]
    refine condd (fun h => ?_) (fun h => ?_)
    · exact absurd h (by simp)
    · conv => simp (maxSteps := 2000000) (disch := omega) only [go_sem, Nat.reduceAdd, Nat.reduceSub, Nat.reduceMul, Int.reduceToNat, Nat.reduceEqDiff, Nat.reduceBEq, Nat.reduceBneDiff]
      refine callk (cTrim [] (by decide)) ?_
      conv => simp (maxSteps := 2000000) (disch := omega) only [go_sem, Nat.reduceAdd, Nat.reduceSub, Nat.reduceMul, Int.reduceToNat, Nat.reduceEqDiff, Nat.reduceBEq, Nat.reduceBneDiff]
      refine ⟨_, rfl, ?_⟩
      rw [show num [] - num [] = 0 from rfl, show (0 : Int).toNat = 0 from rfl, dig_zero]
      exact .one (.refl _)
  have hpos : 0 < a.length := List.length_pos_iff.2 hnil
  refine CallsTo.run [] Go.Proofs.Try.func95 rfl rfl ?_; conv => simp (maxSteps := 2000000) (disch := omega) only [go_sem, Nat.reduceAdd, Nat.reduceSub, Nat.reduceMul, Int.reduceToNat, Nat.reduceEqDiff, Nat.reduceBEq, Nat.reduceBneDiff, Go.Proofs.Try.f95, List.replicate]
  refine callk (cClone1 a hpos (by omega)) ?_
  conv => simp (maxSteps := 2000000) (disch := omega) only [go_sem, Nat.reduceAdd, Nat.reduceSub, Nat.reduceMul, Int.reduceToNat, Nat.reduceEqDiff, Nat.reduceBEq, Nat.reduceBneDiff]
  refine loopo [0, 1, 5, 11, 12] (fun x : Nat × List Int × Int => [(6, .one (.raw (.int .i64 x.2.2))), (10, .arr [] (.ints .i64 x.2.1) none), (13, .one (.raw (.int .i64 x.1)))])
    (fun x => x.1 ≤ a.length ∧ x.2.1.length = a.length ∧ digits x.2.1 ∧ (0 ≤ x.2.2 ∧ x.2.2 ≤ 1) ∧ num x.2.1 - 1048576 ^ x.1 * x.2.2 = num a - num (b.take x.1))
    (fun x => a.length - x.1) (0, a, 0)
    ⟨Nat.zero_le _, rfl, ha, by simp, by simp [num]⟩ ?_ ?_
  · conv => simp (maxSteps := 2000000) (disch := omega) only [go_sem, Nat.reduceAdd, Nat.reduceSub, Nat.reduceMul, Int.reduceToNat, Nat.reduceEqDiff, Nat.reduceBEq, Nat.reduceBneDiff]
    exact StLe.weaken (by repeat' first | exact .nil | refine .cons (by first | exact .refl _ | exact .any _) ?_) rfl
  rintro ⟨i, o, c⟩ ⟨hi, ho, hdo, hc, hn⟩
  simp only at hi ho hdo hc hn
  conv => simp (maxSteps := 2000000) (disch := omega) only [go_sem, Nat.reduceAdd, Nat.reduceSub, Nat.reduceMul, Int.reduceToNat, Nat.reduceEqDiff, Nat.reduceBEq, Nat.reduceBneDiff]
  refine condd (fun h => ?_) (fun h => ?_)
  · have hoi := hdo.getD i
    have hbi := hb.getD i
    conv => simp (maxSteps := 2000000) (disch := omega) only [go_sem, Nat.reduceAdd, Nat.reduceSub, Nat.reduceMul, Int.reduceToNat, Nat.reduceEqDiff, Nat.reduceBEq, Nat.reduceBneDiff]
    have key : ∀ s : Int, s = o.getD i 0 - c - b.getD i 0 → num (o.set i (s % 1048576)) - 1048576 ^ (i + 1) * (s / 1048576 % 2) = num a - num (b.take (i + 1)) := fun s hs => by
      have h1 := carry_set (o := o) (i := i) (by omega) s
      have h2 : s / 1048576 % 2 = - (s / 1048576) := by omega
      rw [num_take_succ, h2]
      rw [hs] at h1 ⊢
      grind
    refine condd (fun h1 => ?_) (fun h1 => ?_)
    · conv => simp (maxSteps := 2000000) (disch := omega) only [go_sem, Nat.reduceAdd, Nat.reduceSub, Nat.reduceMul, Int.reduceToNat, Nat.reduceEqDiff, Nat.reduceBEq, Nat.reduceBneDiff, and20, and1, shr20]
      exact ⟨(i + 1, o.set i ((o.getD i 0 - c - b.getD i 0) % 1048576), (o.getD i 0 - c - b.getD i 0) / 1048576 % 2),
        ⟨by dsimp only; omega, by simpa using ho, hdo.set i (by omega), by dsimp only; omega, key _ rfl⟩, by dsimp only; omega, StLe.weaken (by repeat' first | exact .nil | refine .cons (by first | exact .refl _ | exact .any _) ?_) rfl⟩
    · conv => simp (maxSteps := 2000000) (disch := omega) only [go_sem, Nat.reduceAdd, Nat.reduceSub, Nat.reduceMul, Int.reduceToNat, Nat.reduceEqDiff, Nat.reduceBEq, Nat.reduceBneDiff, and20, and1, shr20]
      have hb0 := getD_ge (l := b) (i := i) (by omega)
      exact ⟨(i + 1, o.set i ((o.getD i 0 - c) % 1048576), (o.getD i 0 - c) / 1048576 % 2),
        ⟨by dsimp only; omega, by simpa using ho, hdo.set i (by omega), by dsimp only; omega, key _ (by omega)⟩, by dsimp only; omega, StLe.weaken (by repeat' first | exact .nil | refine .cons (by first | exact .refl _ | exact .any _) ?_) rfl⟩
  · conv => simp (maxSteps := 2000000) (disch := omega) only [go_sem, Nat.reduceAdd, Nat.reduceSub, Nat.reduceMul, Int.reduceToNat, Nat.reduceEqDiff, Nat.reduceBEq, Nat.reduceBneDiff]
    have hip : i = a.length := by omega
    subst hip
    rw [take_ge hlen] at hn
    have h1 := num_lt hdo
    have h2 := num_nonneg hdo
    rw [ho] at h1
    have hc0 : c = 0 := by
      rcases Int.le_iff_eq_or_lt.1 hc.2 with h3 | h3
      · rw [h3] at hn; omega
      · omega
    subst hc0
    have hnum : num o = num a - num b := by rw [← hn]; simp
    have htr := trimN_le o o.length
    refine ownk (trimX o _ rfl (by omega)) ?_
    conv => simp (maxSteps := 2000000) (disch := omega) only [go_sem, Nat.reduceAdd, Nat.reduceSub, Nat.reduceMul, Int.reduceToNat, Nat.reduceEqDiff, Nat.reduceBEq, Nat.reduceBneDiff]
    exact ⟨_, rfl, by rw [trim_own hdo hnum]; exact .own⟩
end Go.Slot.T

/- Contracts of package big: mul. -/
namespace Go.Slot.T
open Go Go.RowKit Go.Slot
open Go.Proofs.Try (prog)
set_option maxRecDepth 10000
set_option maxHeartbeats 2000000

theorem cMul' (a b : List Int) (ha : digits a) (hb : digits b) (la : a.length ≤ 1099511627776) (lb : b.length ≤ 1099511627776) :
    CallsTo prog 88 [.one (.ints .i64 a), .one (.ints .i64 b)] (.arr [] (.ints .i64 (dig (num a * num b).toNat)) none) := by
  refine CallsTo.run [] Go.Proofs.Try.func88 rfl rfl ?_; conv => simp (maxSteps := 2000000) (disch := omega) only [go_sem, Nat.reduceAdd, Nat.reduceSub, Nat.reduceMul, Int.reduceToNat, Nat.reduceEqDiff, Nat.reduceBEq, Nat.reduceBneDiff, Go.Proofs.Try.f88, List.replicate]
  refine loopo [0, 1, 5, 18, 19] (fun x : Nat × List Int => [(17, .arr [] (.ints .i64 x.2) none), (20, .one (.raw (.int .i64 x.1)))])
    (fun x => x.1 ≤ a.length ∧ x.2.length = a.length + b.length ∧ digits x.2 ∧ zeroFrom x.2 (x.1 + b.length) ∧ num x.2 = num (a.take x.1) * num b)
    (fun x => a.length - x.1) (0, List.replicate ((a.length : Int) + b.length).toNat 0)
    ⟨Nat.zero_le _, by simp; omega, digits.rep _, (zeroFrom.rep _).mono (Nat.zero_le _), by simp [num, num_rep]⟩ ?_ ?_
  · conv => simp (maxSteps := 2000000) (disch := omega) only [go_sem, Nat.reduceAdd, Nat.reduceSub, Nat.reduceMul, Int.reduceToNat, Nat.reduceEqDiff, Nat.reduceBEq, Nat.reduceBneDiff]
    exact StLe.weaken (by repeat' first | exact .nil | refine .cons (by first | exact .refl _ | exact .any _) ?_) rfl
  rintro ⟨i, o⟩ ⟨hi, ho, hdo, hz, hn⟩
  simp only at hi ho hdo hz hn
  conv => simp (maxSteps := 2000000) (disch := omega) only [go_sem, Nat.reduceAdd, Nat.reduceSub, Nat.reduceMul, Int.reduceToNat, Nat.reduceEqDiff, Nat.reduceBEq, Nat.reduceBneDiff]
  refine condd (fun h => ?_) (fun h => ?_)
  · conv => simp (maxSteps := 2000000) (disch := omega) only [go_sem, Nat.reduceAdd, Nat.reduceSub, Nat.reduceMul, Int.reduceToNat, Nat.reduceEqDiff, Nat.reduceBEq, Nat.reduceBneDiff]
    have hai := ha.getD i
    refine loopo [0, 1, 5, 6, 7, 18, 19, 20, 25, 26] (fun x : Nat × List Int × Int => [(8, .one (.raw (.int .i64 x.2.2))), (17, .arr [] (.ints .i64 x.2.1) none), (27, .one (.raw (.int .i64 x.1)))])
      (fun x => x.1 ≤ b.length ∧ x.2.1.length = a.length + b.length ∧ digits x.2.1 ∧ zeroFrom x.2.1 (i + b.length) ∧ (0 ≤ x.2.2 ∧ x.2.2 ≤ 1048575) ∧
        num x.2.1 + 1048576 ^ (i + x.1) * x.2.2 = num (a.take i) * num b + 1048576 ^ i * (a.getD i 0 * num (b.take x.1)))
      (fun x => b.length - x.1) (0, o, 0)
      ⟨Nat.zero_le _, ho, hdo, hz, by simp, by simp [num, hn]⟩ ?_ ?_
    · conv => simp (maxSteps := 2000000) (disch := omega) only [go_sem, Nat.reduceAdd, Nat.reduceSub, Nat.reduceMul, Int.reduceToNat, Nat.reduceEqDiff, Nat.reduceBEq, Nat.reduceBneDiff]
      exact StLe.weaken (by repeat' first | exact .nil | refine .cons (by first | exact .refl _ | exact .any _) ?_) rfl
    rintro ⟨k, o', c⟩ ⟨hk, ho', hdo', hz', hc, hn'⟩
    simp only at hk ho' hdo' hz' hc hn'
    conv => simp (maxSteps := 2000000) (disch := omega) only [go_sem, Nat.reduceAdd, Nat.reduceSub, Nat.reduceMul, Int.reduceToNat, Nat.reduceEqDiff, Nat.reduceBEq, Nat.reduceBneDiff]
    refine condd (fun h1 => ?_) (fun h1 => ?_)
    · have hbk := hb.getD k
      have hok := hdo'.getD (i + k)
      have hprod : 0 ≤ a.getD i 0 * b.getD k 0 ∧ a.getD i 0 * b.getD k 0 ≤ 1048575 * 1048575 := ⟨Int.mul_nonneg hai.1 hbk.1, Int.mul_le_mul hai.2 hbk.2 hbk.1 (by decide)⟩
      have eik : ((i : Int) + k).toNat = i + k := by omega
      conv => simp (maxSteps := 2000000) (disch := omega) only [go_sem, Nat.reduceAdd, Nat.reduceSub, Nat.reduceMul, Int.reduceToNat, Nat.reduceEqDiff, Nat.reduceBEq, Nat.reduceBneDiff, and20, shr20, eik]
      generalize hs : o'.getD (i + k) 0 + a.getD i 0 * b.getD k 0 + c = s at *
      have h2 := carry_set (o := o') (i := i + k) (by omega) s
      refine ⟨(k + 1, o'.set (i + k) (s % 1048576), s / 1048576),
        ⟨by dsimp only; omega, by simpa using ho', hdo'.set _ (by omega), hz'.set_lt _ (by omega), by dsimp only; omega, ?_⟩, by dsimp only; omega, ?_⟩
      · dsimp only
        rw [num_take_succ, show i + (k + 1) = i + k + 1 by omega, h2, ← hs, Int.pow_add]
        rw [Int.pow_add] at hn'
        grind
      · exact StLe.weaken (by repeat' first | exact .nil | refine .cons (by first | exact .refl _ | exact .any _) ?_) rfl
    · have hkb : k = b.length := by omega
      subst hkb
      have eib : ((i : Int) + b.length).toNat = i + b.length := by omega
      have hz0 := hz' (i + b.length) (Nat.le_refl _)
      conv => simp (maxSteps := 2000000) (disch := omega) only [go_sem, Nat.reduceAdd, Nat.reduceSub, Nat.reduceMul, Int.reduceToNat, Nat.reduceEqDiff, Nat.reduceBEq, Nat.reduceBneDiff, eib, hz0, Int.zero_add]
      refine ⟨(i + 1, o'.set (i + b.length) c), ⟨by dsimp only; omega, by simpa using ho', hdo'.set _ (by omega), ?_, ?_⟩, by dsimp only; omega, ?_⟩
      · exact (hz'.set c).mono (by dsimp only; omega)
      · dsimp only
        rw [num_set _ _ _ (by omega), hz0, num_take_succ]
        rw [List.take_length] at hn'
        grind
      · exact StLe.weaken (by repeat' first | exact .nil | refine .cons (by first | exact .refl _ | exact .any _) ?_) rfl
  · have hia : i = a.length := by omega
    subst hia
    rw [List.take_length] at hn
    conv => simp (maxSteps := 2000000) (disch := omega) only [go_sem, Nat.reduceAdd, Nat.reduceSub, Nat.reduceMul, Int.reduceToNat, Nat.reduceEqDiff, Nat.reduceBEq, Nat.reduceBneDiff]
    have htr := trimN_le o o.length
    refine ownk (trimX o _ rfl (by omega)) ?_
    conv => simp (maxSteps := 2000000) (disch := omega) only [go_sem, Nat.reduceAdd, Nat.reduceSub, Nat.reduceMul, Int.reduceToNat, Nat.reduceEqDiff, Nat.reduceBEq, Nat.reduceBneDiff]
    exact ⟨_, rfl, by rw [trim_own hdo hn]; exact .one (.refl _)⟩
end Go.Slot.T

/- Contracts of package big: short, compare; cmp.Compare. -/
namespace Go.Slot.T
open Go Go.RowKit Go.Slot
open Go.Proofs.Try (prog)
set_option maxRecDepth 10000
set_option maxHeartbeats 2000000

theorem trim_data {L : List Int} {n : Int} (hd : digits L) (h : num L = n) : Cell.ints .i64 (L.take (trimN L L.length)) = .ints .i64 (dig n.toNat) := by
  rw [← trimL_eq' hd h]; rfl

theorem cShort (a : List Int) (d : Int) (ha : digits a) (la : a.length ≤ 1099511627776) (hd : 1 ≤ d ∧ d ≤ 1048576) :
    CallsTo prog 86 [.one (.ints .i64 a), .one (.raw (.int .i64 d))] (.tup [.one (.ints .i64 (dig (num a / d).toNat)), .one (.raw (.int .i64 (num a % d)))]) := by
  refine CallsTo.run [] Go.Proofs.Try.func86 rfl rfl ?_; conv => simp (maxSteps := 2000000) (disch := omega) only [go_sem, Nat.reduceAdd, Nat.reduceSub, Nat.reduceMul, Int.reduceToNat, Nat.reduceEqDiff, Nat.reduceBEq, Nat.reduceBneDiff, Go.Proofs.Try.f86, List.replicate]
  refine loopo [0, 1, 6] (fun x : Nat × List Int × Int => [(7, .one (.raw (.int .i64 x.2.2))), (8, .one (.raw (.int .i64 ((x.1 : Int) - 1)))), (11, .arr [] (.ints .i64 x.2.1) none)])
    (fun x => x.1 ≤ a.length ∧ x.2.1.length = a.length ∧ digits x.2.1 ∧ (0 ≤ x.2.2 ∧ x.2.2 < d) ∧ num (a.drop x.1) = d * num (x.2.1.drop x.1) + x.2.2)
    (fun x => x.1) (a.length, List.replicate (a.length : Int).toNat 0, 0)
    ⟨Nat.le_refl _, by simp, digits.rep _, by simp; omega, by simp [num]⟩ ?_ ?_
  · conv => simp (maxSteps := 2000000) (disch := omega) only [go_sem, Nat.reduceAdd, Nat.reduceSub, Nat.reduceMul, Int.reduceToNat, Nat.reduceEqDiff, Nat.reduceBEq, Nat.reduceBneDiff]
    exact StLe.weaken (by repeat' first | exact .nil | refine .cons (by first | exact .refl _ | exact .any _) ?_) rfl
  rintro ⟨n, o, r⟩ ⟨hn, ho, hdo, hr, he⟩
  simp only at hn ho hdo hr he
  conv => simp (maxSteps := 2000000) (disch := omega) only [go_sem, Nat.reduceAdd, Nat.reduceSub, Nat.reduceMul, Int.reduceToNat, Nat.reduceEqDiff, Nat.reduceBEq, Nat.reduceBneDiff]
  refine condd (fun h => ?_) (fun h => ?_)
  · obtain ⟨i, rfl⟩ : ∃ i, n = i + 1 := ⟨n - 1, by omega⟩
    have ei : ((i + 1 : Nat) : Int) - 1 = (i : Nat) := by omega
    have hai := ha.getD i
    conv => simp (maxSteps := 2000000) (disch := omega) only [go_sem, Nat.reduceAdd, Nat.reduceSub, Nat.reduceMul, Int.reduceToNat, Nat.reduceEqDiff, Nat.reduceBEq, Nat.reduceBneDiff, ei, shl20, or20]
    generalize ht : r * 1048576 + a.getD i 0 = t at *
    have ht0 : 0 ≤ t := by omega
    have htd : t < d * 1048576 := by
      have : r * 1048576 ≤ (d - 1) * 1048576 := Int.mul_le_mul_of_nonneg_right (by omega) (by decide)
      omega
    have hq : t.tdiv d = t / d := Int.tdiv_eq_ediv_of_nonneg ht0
    have hm : t.tmod d = t % d := Int.tmod_eq_emod_of_nonneg ht0
    have hq0 : 0 ≤ t / d := Int.ediv_nonneg ht0 (by omega)
    have hq1 : t / d < 1048576 := Int.ediv_lt_of_lt_mul (by omega) (by rw [Int.mul_comm]; exact htd)
    have hm0 : 0 ≤ t % d := Int.emod_nonneg _ (by omega)
    have hm1 : t % d < d := Int.emod_lt_of_pos _ (by omega)
    have hdm := Int.emod_add_mul_ediv t d
    rw [hq, hm]
    conv => simp (maxSteps := 2000000) (disch := omega) only [go_sem, Nat.reduceAdd, Nat.reduceSub, Nat.reduceMul, Int.reduceToNat, Nat.reduceEqDiff, Nat.reduceBEq, Nat.reduceBneDiff]
    refine ⟨(i, o.set i (t / d), t % d), ⟨by dsimp only; omega, by simpa using ho, hdo.set _ (by omega), by dsimp only; omega, ?_⟩, by dsimp only; omega, ?_⟩
    · dsimp only
      rw [drop_set_self _ (by omega), num_drop, he]
      simp only [num]
      grind
    · exact StLe.weaken (by repeat' first | exact .nil | refine .cons (by first | exact .refl _ | exact .any _) ?_) rfl
  · have h0 : n = 0 := by omega
    subst h0
    simp only [List.drop_zero] at he
    conv => simp (maxSteps := 2000000) (disch := omega) only [go_sem, Nat.reduceAdd, Nat.reduceSub, Nat.reduceMul, Int.reduceToNat, Nat.reduceEqDiff, Nat.reduceBEq, Nat.reduceBneDiff]
    have htr := trimN_le o o.length
    refine ownk (trimX o _ rfl (by omega)) ?_
    conv => simp (maxSteps := 2000000) (disch := omega) only [go_sem, Nat.reduceAdd, Nat.reduceSub, Nat.reduceMul, Int.reduceToNat, Nat.reduceEqDiff, Nat.reduceBEq, Nat.reduceBneDiff]
    have hq : num a / d = num o := by
      rw [he, Int.add_comm, Int.add_mul_ediv_left _ _ (by omega), Int.ediv_eq_zero_of_lt hr.1 hr.2]; omega
    have hm : num a % d = r := by
      rw [he, Int.add_comm, Int.add_mul_emod_self_left, Int.emod_eq_of_lt hr.1 hr.2]
    exact ⟨_, rfl, by rw [trim_data hdo rfl, hq, hm]; exact .tup (.cons (.refl _) (.cons (.refl _) .nil))⟩

theorem cNaN (x : Int) : CallsTo prog 96 [.one (.raw (.int .i64 x))] (.one (.raw (.bool false))) := by
  refine CallsTo.run [] Go.Proofs.Try.func96 rfl rfl ?_; conv => simp (maxSteps := 2000000) (disch := omega) only [go_sem, Nat.reduceAdd, Nat.reduceSub, Nat.reduceMul, Int.reduceToNat, Nat.reduceEqDiff, Nat.reduceBEq, Nat.reduceBneDiff, Go.Proofs.Try.f96, List.replicate]
  exact ⟨_, rfl, .one (.refl _)⟩
theorem cCmp (x y : Int) : CallsTo prog 78 [.one (.raw (.int .i64 x)), .one (.raw (.int .i64 y))] (.one (.raw (.int .i64 (ord x y)))) := by
  refine CallsTo.run [] Go.Proofs.Try.func78 rfl rfl ?_; conv => simp (maxSteps := 2000000) (disch := omega) only [go_sem, Nat.reduceAdd, Nat.reduceSub, Nat.reduceMul, Int.reduceToNat, Nat.reduceEqDiff, Nat.reduceBEq, Nat.reduceBneDiff, Go.Proofs.Try.f78, List.replicate]
  refine callk (cNaN x) ?_
  conv => simp (maxSteps := 2000000) (disch := omega) only [go_sem, Nat.reduceAdd, Nat.reduceSub, Nat.reduceMul, Int.reduceToNat, Nat.reduceEqDiff, Nat.reduceBEq, Nat.reduceBneDiff]
  refine callk (cNaN y) ?_
  conv => simp (maxSteps := 2000000) (disch := omega) only [go_sem, Nat.reduceAdd, Nat.reduceSub, Nat.reduceMul, Int.reduceToNat, Nat.reduceEqDiff, Nat.reduceBEq, Nat.reduceBneDiff]
  unfold ord
  refine condd (fun h => ?_) (fun h => ?_)
  · conv => simp (maxSteps := 2000000) (disch := omega) only [go_sem, Nat.reduceAdd, Nat.reduceSub, Nat.reduceMul, Int.reduceToNat, Nat.reduceEqDiff, Nat.reduceBEq, Nat.reduceBneDiff]
    exact ⟨_, rfl, .one (.refl _)⟩
  · conv => simp (maxSteps := 2000000) (disch := omega) only [go_sem, Nat.reduceAdd, Nat.reduceSub, Nat.reduceMul, Int.reduceToNat, Nat.reduceEqDiff, Nat.reduceBEq, Nat.reduceBneDiff]
    refine condd (fun h1 => ?_) (fun h1 => ?_)
    · conv => simp (maxSteps := 2000000) (disch := omega) only [go_sem, Nat.reduceAdd, Nat.reduceSub, Nat.reduceMul, Int.reduceToNat, Nat.reduceEqDiff, Nat.reduceBEq, Nat.reduceBneDiff]
      exact ⟨_, rfl, .one (.refl _)⟩
    · conv => simp (maxSteps := 2000000) (disch := omega) only [go_sem, Nat.reduceAdd, Nat.reduceSub, Nat.reduceMul, Int.reduceToNat, Nat.reduceEqDiff, Nat.reduceBEq, Nat.reduceBneDiff]
      exact ⟨_, rfl, .one (.refl _)⟩

theorem cCompare (a b : List Int) (ha : digits a) (na : norm a) (hb : digits b) (nb : norm b) (la : a.length ≤ 1099511627776) (_lb : b.length ≤ 1099511627776) :
    CallsTo prog 79 [.one (.ints .i64 a), .one (.ints .i64 b)] (.one (.raw (.int .i64 (ord (num a) (num b))))) := by
  refine CallsTo.run [] Go.Proofs.Try.func79 rfl rfl ?_; conv => simp (maxSteps := 2000000) (disch := omega) only [go_sem, Nat.reduceAdd, Nat.reduceSub, Nat.reduceMul, Int.reduceToNat, Nat.reduceEqDiff, Nat.reduceBEq, Nat.reduceBneDiff, Go.Proofs.Try.f79, List.replicate]
  refine condd (fun h => ?_) (fun h => ?_)
  · conv => simp (maxSteps := 2000000) (disch := omega) only [go_sem, Nat.reduceAdd, Nat.reduceSub, Nat.reduceMul, Int.reduceToNat, Nat.reduceEqDiff, Nat.reduceBEq, Nat.reduceBneDiff]
    refine callk (cCmp _ _) ?_
    conv => simp (maxSteps := 2000000) (disch := omega) only [go_sem, Nat.reduceAdd, Nat.reduceSub, Nat.reduceMul, Int.reduceToNat, Nat.reduceEqDiff, Nat.reduceBEq, Nat.reduceBneDiff]
    refine ⟨_, rfl, ?_⟩
    have : ord (a.length : Int) b.length = ord (num a) (num b) := by
      unfold ord
      rcases Nat.lt_or_gt_of_ne (fun e : a.length = b.length => h (by omega)) with h1 | h1
      · have := ord_len ha na hb nb h1
        rw [if_pos (by omega), if_pos this]
      · have := ord_len hb nb ha na h1
        rw [if_neg (by omega), if_pos (by omega), if_neg (by omega), if_pos this]
    rw [this]
    exact .one (.refl _)
  · have hl : a.length = b.length := by omega
    conv => simp (maxSteps := 2000000) (disch := omega) only [go_sem, Nat.reduceAdd, Nat.reduceSub, Nat.reduceMul, Int.reduceToNat, Nat.reduceEqDiff, Nat.reduceBEq, Nat.reduceBneDiff]
    refine loopo [0, 1] (fun n : Nat => [(5, .one (.raw (.int .i64 ((n : Int) - 1))))])
      (fun n => n ≤ a.length ∧ a.drop n = b.drop n) (fun n => n) a.length
      ⟨Nat.le_refl _, by rw [List.drop_length, hl, List.drop_length]⟩ ?_ ?_
    · conv => simp (maxSteps := 2000000) (disch := omega) only [go_sem, Nat.reduceAdd, Nat.reduceSub, Nat.reduceMul, Int.reduceToNat, Nat.reduceEqDiff, Nat.reduceBEq, Nat.reduceBneDiff]
      exact StLe.weaken (by repeat' first | exact .nil | refine .cons (by first | exact .refl _ | exact .any _) ?_) rfl
    rintro n ⟨hn, he⟩
    conv => simp (maxSteps := 2000000) (disch := omega) only [go_sem, Nat.reduceAdd, Nat.reduceSub, Nat.reduceMul, Int.reduceToNat, Nat.reduceEqDiff, Nat.reduceBEq, Nat.reduceBneDiff]
    refine condd (fun h1 => ?_) (fun h1 => ?_)
    · obtain ⟨i, rfl⟩ : ∃ i, n = i + 1 := ⟨n - 1, by omega⟩
      have ei : ((i + 1 : Nat) : Int) - 1 = (i : Nat) := by omega
      conv => simp (maxSteps := 2000000) (disch := omega) only [go_sem, Nat.reduceAdd, Nat.reduceSub, Nat.reduceMul, Int.reduceToNat, Nat.reduceEqDiff, Nat.reduceBEq, Nat.reduceBneDiff, ei]
      refine indk (by kernel_rfl) ?_
      conv => simp (maxSteps := 2000000) (disch := omega) only [go_sem, Nat.reduceAdd, Nat.reduceSub, Nat.reduceMul, Int.reduceToNat, Nat.reduceEqDiff, Nat.reduceBEq, Nat.reduceBneDiff, ei]
      refine condd (fun h2 => ?_) (fun h2 => ?_)
      · conv => simp (maxSteps := 2000000) (disch := omega) only [go_sem, Nat.reduceAdd, Nat.reduceSub, Nat.reduceMul, Int.reduceToNat, Nat.reduceEqDiff, Nat.reduceBEq, Nat.reduceBneDiff, ei]
        refine callk (cCmp _ _) ?_
        conv => simp (maxSteps := 2000000) (disch := omega) only [go_sem, Nat.reduceAdd, Nat.reduceSub, Nat.reduceMul, Int.reduceToNat, Nat.reduceEqDiff, Nat.reduceBEq, Nat.reduceBneDiff, ei]
        refine indk (by kernel_rfl) ?_
        conv => simp (maxSteps := 2000000) (disch := omega) only [go_sem, Nat.reduceAdd, Nat.reduceSub, Nat.reduceMul, Int.reduceToNat, Nat.reduceEqDiff, Nat.reduceBEq, Nat.reduceBneDiff, ei]
        refine ⟨_, rfl, ?_⟩
        have : ord (a.getD i 0) (b.getD i 0) = ord (num a) (num b) := by
          unfold ord
          rcases Int.lt_or_gt_of_ne h2 with h3 | h3
          · have := num_top ha hb hl i (by omega) he h3
            rw [if_pos h3, if_pos this]
          · have := num_top hb ha hl.symm i (by omega) he.symm h3
            rw [if_neg (by omega), if_pos (by omega), if_neg (by omega), if_pos this]
        rw [this]
        exact .one (.refl _)
      · have h2 : a.getD i 0 = b.getD i 0 := by omega
        conv => simp (maxSteps := 2000000) (disch := omega) only [go_sem, Nat.reduceAdd, Nat.reduceSub, Nat.reduceMul, Int.reduceToNat, Nat.reduceEqDiff, Nat.reduceBEq, Nat.reduceBneDiff, ei]
        refine ⟨i, ⟨by omega, ?_⟩, by omega, StLe.weaken (by repeat' first | exact .nil | refine .cons (by first | exact .refl _ | exact .any _) ?_) rfl⟩
        have e1 : ∀ (l : List Int), i < l.length → l.drop i = l.getD i 0 :: l.drop (i + 1) := fun l hi => by
          rw [List.drop_eq_getElem_cons hi]
          congr 1
          simp [hi]
        rw [e1 a (by omega), e1 b (by omega), he, h2]
    · have h0 : n = 0 := by omega
      subst h0
      have he : a = b := by simpa using he
      conv => simp (maxSteps := 2000000) (disch := omega) only [go_sem, Nat.reduceAdd, Nat.reduceSub, Nat.reduceMul, Int.reduceToNat, Nat.reduceEqDiff, Nat.reduceBEq, Nat.reduceBneDiff]
      refine ⟨_, rfl, ?_⟩
      have : ord (num a) (num b) = 0 := by rw [he]; simp [ord]
      rw [this]
      exact .one (.refl _)
end Go.Slot.T

/- Contracts of package big: settle. -/
namespace Go.Slot.T
open Go Go.RowKit Go.Slot
open Go.Proofs.Try (prog)
set_option maxRecDepth 10000
set_option maxHeartbeats 4000000

/-- what settle returns -/
def settled (u v g : Int) : Int := if u < g * v then g - 1 else g

theorem xSettle (pre q : List Value) (u v : List Int) (g : Int) (hu : digits u) (hv : digits v) (lu : u.length ≤ 1099511627776) (hl : v.length ≤ u.length) (hg : 0 ≤ g ∧ g ≤ 1048575)
    (h1 : (g - 1) * num v ≤ num u) :
    CallsX prog 89 [.arr pre (.ints .i64 u) (some q), .one (.ints .i64 v), .one (.raw (.int .i64 g))] 0
      (.arr pre (.ints .i64 (fixd u.length (num u - settled (num u) (num v) g * num v))) (some q)) (.one (.raw (.int .i64 (settled (num u) (num v) g)))) := by
  refine CallsX.run [] Go.Proofs.Try.func89 rfl rfl (fun t h => h) ?_; conv => simp (maxSteps := 2000000) (disch := omega) only [go_sem, Nat.reduceAdd, Nat.reduceSub, Nat.reduceMul, Int.reduceToNat, Nat.reduceEqDiff, Nat.reduceBEq, Nat.reduceBneDiff, Go.Proofs.Try.f89, List.replicate]
  refine loopo [1, 2, 12, 13] (fun x : Nat × List Int × Int => [(0, .arr pre (.ints .i64 x.2.1) (some q)), (7, .one (.raw (.int .i64 x.2.2))), (14, .one (.raw (.int .i64 x.1)))])
    (fun x => x.1 ≤ u.length ∧ x.2.1.length = u.length ∧ digits x.2.1 ∧ (0 ≤ x.2.2 ∧ x.2.2 ≤ 1048575) ∧ num x.2.1 - 1048576 ^ x.1 * x.2.2 = num u - g * num (v.take x.1))
    (fun x => u.length - x.1) (0, u, 0)
    ⟨Nat.zero_le _, rfl, hu, by simp, by simp [num]⟩ ?_ ?_
  · conv => simp (maxSteps := 2000000) (disch := omega) only [go_sem, Nat.reduceAdd, Nat.reduceSub, Nat.reduceMul, Int.reduceToNat, Nat.reduceEqDiff, Nat.reduceBEq, Nat.reduceBneDiff]
    exact StLe.weaken (by repeat' first | exact .nil | refine .cons (by first | exact .refl _ | exact .any _) ?_) rfl
  rintro ⟨i, o, c⟩ ⟨hi, ho, hdo, hc, hn⟩
  simp only at hi ho hdo hc hn
  conv => simp (maxSteps := 2000000) (disch := omega) only [go_sem, Nat.reduceAdd, Nat.reduceSub, Nat.reduceMul, Int.reduceToNat, Nat.reduceEqDiff, Nat.reduceBEq, Nat.reduceBneDiff]
  refine condd (fun h => ?_) (fun h => ?_)
  · have hoi := hdo.getD i
    have hvi := hv.getD i
    have hprod : 0 ≤ g * v.getD i 0 ∧ g * v.getD i 0 ≤ 1048575 * 1048575 := ⟨Int.mul_nonneg hg.1 hvi.1, Int.mul_le_mul hg.2 hvi.2 hvi.1 (by decide)⟩
    have key : ∀ s : Int, s = o.getD i 0 - c - g * v.getD i 0 → num (o.set i (s % 1048576)) - 1048576 ^ (i + 1) * (0 - s / 1048576) = num u - g * num (v.take (i + 1)) := fun s hs => by
      have h1 := carry_set (o := o) (i := i) (by omega) s
      rw [num_take_succ]
      rw [hs] at h1 ⊢
      grind
    conv => simp (maxSteps := 2000000) (disch := omega) only [go_sem, Nat.reduceAdd, Nat.reduceSub, Nat.reduceMul, Int.reduceToNat, Nat.reduceEqDiff, Nat.reduceBEq, Nat.reduceBneDiff]
    refine condd (fun h1 => ?_) (fun h1 => ?_)
    · conv => simp (maxSteps := 2000000) (disch := omega) only [go_sem, Nat.reduceAdd, Nat.reduceSub, Nat.reduceMul, Int.reduceToNat, Nat.reduceEqDiff, Nat.reduceBEq, Nat.reduceBneDiff]
      generalize hp : g * v.getD i 0 = p at *
      conv => simp (maxSteps := 2000000) (disch := omega) only [go_sem, Nat.reduceAdd, Nat.reduceSub, Nat.reduceMul, Int.reduceToNat, Nat.reduceEqDiff, Nat.reduceBEq, Nat.reduceBneDiff, and20, shr20]
      exact ⟨(i + 1, o.set i ((o.getD i 0 - c - p) % 1048576), 0 - (o.getD i 0 - c - p) / 1048576),
        ⟨by dsimp only; omega, by simpa using ho, hdo.set i (by omega), by dsimp only; omega, key _ rfl⟩, by dsimp only; omega, StLe.weaken (by repeat' first | exact .nil | refine .cons (by first | exact .refl _ | exact .any _) ?_) rfl⟩
    · have hv0 := getD_ge (l := v) (i := i) (by omega)
      conv => simp (maxSteps := 2000000) (disch := omega) only [go_sem, Nat.reduceAdd, Nat.reduceSub, Nat.reduceMul, Int.reduceToNat, Nat.reduceEqDiff, Nat.reduceBEq, Nat.reduceBneDiff, and20, shr20]
      exact ⟨(i + 1, o.set i ((o.getD i 0 - c) % 1048576), 0 - (o.getD i 0 - c) / 1048576),
        ⟨by dsimp only; omega, by simpa using ho, hdo.set i (by omega), by dsimp only; omega, key _ (by rw [hv0]; simp)⟩, by dsimp only; omega, StLe.weaken (by repeat' first | exact .nil | refine .cons (by first | exact .refl _ | exact .any _) ?_) rfl⟩
  · have hip : i = u.length := by omega
    subst hip
    rw [take_ge hl] at hn
    have hlt := num_lt hdo
    have hnn := num_nonneg hdo
    have hvn := num_nonneg hv
    have hvl := num_lt hv
    rw [ho] at hlt
    conv => simp (maxSteps := 2000000) (disch := omega) only [go_sem, Nat.reduceAdd, Nat.reduceSub, Nat.reduceMul, Int.reduceToNat, Nat.reduceEqDiff, Nat.reduceBEq, Nat.reduceBneDiff]
    refine condd (fun hc0 => ?_) (fun hc0 => ?_)
    · subst hc0
      have hs : settled (num u) (num v) g = g := by
        unfold settled; rw [if_neg]; simp at hn; omega
      conv => simp (maxSteps := 2000000) (disch := omega) only [go_sem, Nat.reduceAdd, Nat.reduceSub, Nat.reduceMul, Int.reduceToNat, Nat.reduceEqDiff, Nat.reduceBEq, Nat.reduceBneDiff]
      refine ⟨?_, rfl, rfl, rfl, ?_⟩
      · rw [hs, ← fixd_eq' hdo ho (by simpa using hn)]; rfl
      · rw [hs]; exact ⟨_, rfl, .one (.refl _)⟩
    · have hlow : num u - g * num v < 0 := by
        have hp : (1048576 : Int) ^ u.length ≤ 1048576 ^ u.length * c := by
          have := Int.mul_le_mul_of_nonneg_left (show (1 : Int) ≤ c by omega) (Int.le_of_lt (pow_pos' u.length))
          rwa [Int.mul_one] at this
        omega
      have hs : settled (num u) (num v) g = g - 1 := by
        unfold settled; rw [if_pos]; omega
      rw [hs]
      have hgm : (g - 1) * num v = g * num v - num v := by rw [Int.sub_mul, Int.one_mul]
      conv => simp (maxSteps := 2000000) (disch := omega) only [go_sem, Nat.reduceAdd, Nat.reduceSub, Nat.reduceMul, Int.reduceToNat, Nat.reduceEqDiff, Nat.reduceBEq, Nat.reduceBneDiff]
      have hbig : num o + num v = num u - (g - 1) * num v + 1048576 ^ u.length := by
        have hc1 : c = 1 := by
          rcases Int.lt_or_gt_of_ne hc0 with h4 | h4
          · omega
          · rcases Int.lt_or_le 1 c with h5 | h5
            · have hp : (1048576 : Int) ^ u.length * 2 ≤ 1048576 ^ u.length * c := Int.mul_le_mul_of_nonneg_left (by omega) (Int.le_of_lt (pow_pos' u.length))
              have hvu : (1048576 : Int) ^ v.length ≤ 1048576 ^ u.length := pow_mono' hl
              omega
            · omega
        subst hc1
        omega
      refine loopo [1, 2, 47, 48] (fun x : Nat × List Int × Int => [(0, .arr pre (.ints .i64 x.2.1) (some q)), (10, .one (.raw (.int .i64 x.2.2))), (49, .one (.raw (.int .i64 x.1)))])
        (fun x => x.1 ≤ u.length ∧ x.2.1.length = u.length ∧ digits x.2.1 ∧ (0 ≤ x.2.2 ∧ x.2.2 ≤ 1) ∧ num x.2.1 + 1048576 ^ x.1 * x.2.2 = num o + num (v.take x.1))
        (fun x => u.length - x.1) (0, o, 0)
        ⟨Nat.zero_le _, ho, hdo, by simp, by simp [num]⟩ ?_ ?_
      · conv => simp (maxSteps := 2000000) (disch := omega) only [go_sem, Nat.reduceAdd, Nat.reduceSub, Nat.reduceMul, Int.reduceToNat, Nat.reduceEqDiff, Nat.reduceBEq, Nat.reduceBneDiff]
        exact StLe.weaken (by repeat' first | exact .nil | refine .cons (by first | exact .refl _ | exact .any _) ?_) rfl
      rintro ⟨i, r, d⟩ ⟨hi', hr, hdr, hd, hn'⟩
      simp only at hi' hr hdr hd hn'
      conv => simp (maxSteps := 2000000) (disch := omega) only [go_sem, Nat.reduceAdd, Nat.reduceSub, Nat.reduceMul, Int.reduceToNat, Nat.reduceEqDiff, Nat.reduceBEq, Nat.reduceBneDiff]
      refine condd (fun h => ?_) (fun h => ?_)
      · have hri := hdr.getD i
        have hvi := hv.getD i
        have key : ∀ s : Int, s = d + r.getD i 0 + v.getD i 0 → num (r.set i (s % 1048576)) + 1048576 ^ (i + 1) * (s / 1048576) = num o + num (v.take (i + 1)) := fun s hs => by
          rw [carry_set (by omega) s, num_take_succ, hs]
          grind
        conv => simp (maxSteps := 2000000) (disch := omega) only [go_sem, Nat.reduceAdd, Nat.reduceSub, Nat.reduceMul, Int.reduceToNat, Nat.reduceEqDiff, Nat.reduceBEq, Nat.reduceBneDiff]
        refine condd (fun h1 => ?_) (fun h1 => ?_)
        · conv => simp (maxSteps := 2000000) (disch := omega) only [go_sem, Nat.reduceAdd, Nat.reduceSub, Nat.reduceMul, Int.reduceToNat, Nat.reduceEqDiff, Nat.reduceBEq, Nat.reduceBneDiff, and20, shr20]
          exact ⟨(i + 1, r.set i ((d + r.getD i 0 + v.getD i 0) % 1048576), (d + r.getD i 0 + v.getD i 0) / 1048576),
            ⟨by dsimp only; omega, by simpa using hr, hdr.set i (by omega), by dsimp only; omega, key _ rfl⟩, by dsimp only; omega, StLe.weaken (by repeat' first | exact .nil | refine .cons (by first | exact .refl _ | exact .any _) ?_) rfl⟩
        · have hv0 := getD_ge (l := v) (i := i) (by omega)
          conv => simp (maxSteps := 2000000) (disch := omega) only [go_sem, Nat.reduceAdd, Nat.reduceSub, Nat.reduceMul, Int.reduceToNat, Nat.reduceEqDiff, Nat.reduceBEq, Nat.reduceBneDiff, and20, shr20]
          exact ⟨(i + 1, r.set i ((d + r.getD i 0) % 1048576), (d + r.getD i 0) / 1048576),
            ⟨by dsimp only; omega, by simpa using hr, hdr.set i (by omega), by dsimp only; omega, key _ (by omega)⟩, by dsimp only; omega, StLe.weaken (by repeat' first | exact .nil | refine .cons (by first | exact .refl _ | exact .any _) ?_) rfl⟩
      · have hip : i = u.length := by omega
        subst hip
        rw [take_ge hl] at hn'
        have hlt' := num_lt hdr
        have hnn' := num_nonneg hdr
        rw [hr] at hlt'
        have hd1 : d = 1 := by
          rcases Int.le_iff_eq_or_lt.1 hd.2 with h4 | h4
          · exact h4
          · have : d = 0 := by omega
            subst this
            omega
        subst hd1
        conv => simp (maxSteps := 2000000) (disch := omega) only [go_sem, Nat.reduceAdd, Nat.reduceSub, Nat.reduceMul, Int.reduceToNat, Nat.reduceEqDiff, Nat.reduceBEq, Nat.reduceBneDiff]
        refine ⟨?_, rfl, rfl, rfl, ?_⟩
        · rw [← fixd_eq' hdr hr (by omega)]; rfl
        · exact ⟨_, rfl, .one (.refl _)⟩
theorem settled_spec {W V g : Int} (h1 : (g - 1) * V ≤ W) (h2 : W < (g + 1) * V) (_hV : 0 < V) (hW : 0 ≤ W) (hg : 0 ≤ g ∧ g ≤ 1048575) :
    0 ≤ settled W V g ∧ settled W V g ≤ 1048575 ∧ settled W V g * V ≤ W ∧ W < (settled W V g + 1) * V := by
  unfold settled
  split
  · rename_i h
    refine ⟨?_, by omega, h1, by rw [show g - 1 + 1 = g by omega]; exact h⟩
    rcases Int.lt_or_le 0 g with h3 | h3
    · omega
    · have : g = 0 := by omega
      subst this
      omega
  · exact ⟨hg.1, hg.2, by omega, h2⟩
theorem settleX (w v : List Int) (i k : Nat) (g : Int) (hw : digits w) (hv : digits v) (hk : k ≤ 1099511627776) (hi : i + k ≤ w.length) (hl : v.length ≤ k) (hg : 0 ≤ g ∧ g ≤ 1048575)
    (h1 : (g - 1) * num v ≤ num ((w.drop i).take k)) :
    CallX prog 89 [.any, .one (.ints .i64 v), .one (.raw (.int .i64 g))] 0 (.wn (.ints .i64 w) i k)
      (.wn (.ints .i64 (fixd k (num ((w.drop i).take k) - settled (num ((w.drop i).take k)) (num v) g * num v))) i k) (.one (.raw (.int .i64 (settled (num ((w.drop i).take k)) (num v) g)))) := fun pre q => by
  have hlen : ((w.drop i).take k).length = k := by simp; omega
  have h := xSettle pre q ((w.drop i).take k) v g ((hw.drop i).take k) hv (by omega) (by omega) hg h1
  rw [hlen] at h
  exact h
end Go.Slot.T

/- Contracts of package big: div. -/
namespace Go.Slot.T
open Go Go.RowKit Go.Slot
open Go.Proofs.Try (prog)
set_option maxRecDepth 10000
set_option maxHeartbeats 8000000

theorem cDivLt (a b : List Int) (ha : digits a) (na : norm a) (hb : digits b) (nb : norm b) (la : a.length ≤ 1073741824) (lb : b.length ≤ 1073741824) (hlt : num a < num b) :
    CallsTo prog 68 [.one (.ints .i64 a), .one (.ints .i64 b)] (.tup [.one (.ints .i64 (dig (num a / num b).toNat)), .one (.ints .i64 (dig (num a % num b).toNat))]) := by
  refine CallsTo.run [] Go.Proofs.Try.func68 rfl rfl ?_; conv => simp (maxSteps := 2000000) (disch := omega) only [go_sem, Nat.reduceAdd, Nat.reduceSub, Nat.reduceMul, Int.reduceToNat, Nat.reduceEqDiff, Nat.reduceBEq, Nat.reduceBneDiff, Go.Proofs.Try.f68, List.replicate]
  refine callk (cCompare a b ha na hb nb (by omega) (by omega)) ?_
  conv => simp (maxSteps := 2000000) (disch := omega) only [go_sem, Nat.reduceAdd, Nat.reduceSub, Nat.reduceMul, Int.reduceToNat, Nat.reduceEqDiff, Nat.reduceBEq, Nat.reduceBneDiff]
  refine condd (fun h => ?_) (fun h => ?_)
  · conv => simp (maxSteps := 2000000) (disch := omega) only [go_sem, Nat.reduceAdd, Nat.reduceSub, Nat.reduceMul, Int.reduceToNat, Nat.reduceEqDiff, Nat.reduceBEq, Nat.reduceBneDiff]
    refine callk (cClone a (by omega)) ?_
    conv => simp (maxSteps := 2000000) (disch := omega) only [go_sem, Nat.reduceAdd, Nat.reduceSub, Nat.reduceMul, Int.reduceToNat, Nat.reduceEqDiff, Nat.reduceBEq, Nat.reduceBneDiff]
    refine ⟨_, rfl, ?_⟩
    have h0 := num_nonneg ha
    rw [Int.ediv_eq_zero_of_lt h0 hlt, Int.emod_eq_of_lt h0 hlt, ← dig_eq ha na, show (0 : Int).toNat = 0 from rfl, dig_zero]
    exact .tup (.cons (.one (.nilInts _)) (.cons (.refl _) .nil))
  · exact absurd (by unfold ord; rw [if_pos hlt]; decide) h

theorem cDivOne (a b : List Int) (ha : digits a) (na : norm a) (hb : digits b) (nb : norm b) (la : a.length ≤ 1073741824) (lb : b.length = 1) (hle : num b ≤ num a) :
    CallsTo prog 68 [.one (.ints .i64 a), .one (.ints .i64 b)] (.tup [.one (.ints .i64 (dig (num a / num b).toNat)), .one (.ints .i64 (dig (num a % num b).toNat))]) := by
  have hord : ¬ ord (num a) (num b) < 0 := by unfold ord; rw [if_neg (by omega)]; split <;> decide
  have hb0 := hb.getD 0
  have hbp := norm.pos hb nb (fun e => by rw [e] at lb; cases lb)
  have hbn : num b = b.getD 0 0 := by
    match b, lb with
    | [d], _ => simp [num]
  refine CallsTo.run [] Go.Proofs.Try.func68 rfl rfl ?_; conv => simp (maxSteps := 2000000) (disch := omega) only [go_sem, Nat.reduceAdd, Nat.reduceSub, Nat.reduceMul, Int.reduceToNat, Nat.reduceEqDiff, Nat.reduceBEq, Nat.reduceBneDiff, Go.Proofs.Try.f68, List.replicate]
  refine callk (cCompare a b ha na hb nb (by omega) (by omega)) ?_
  conv => simp (maxSteps := 2000000) (disch := omega) only [go_sem, Nat.reduceAdd, Nat.reduceSub, Nat.reduceMul, Int.reduceToNat, Nat.reduceEqDiff, Nat.reduceBEq, Nat.reduceBneDiff]
  refine condd (fun h => absurd h hord) (fun _ => ?_)
  conv => simp (maxSteps := 2000000) (disch := omega) only [go_sem, Nat.reduceAdd, Nat.reduceSub, Nat.reduceMul, Int.reduceToNat, Nat.reduceEqDiff, Nat.reduceBEq, Nat.reduceBneDiff]
  refine condd (fun h => ?_) (fun h => absurd (by omega) h)
  conv => simp (maxSteps := 2000000) (disch := omega) only [go_sem, Nat.reduceAdd, Nat.reduceSub, Nat.reduceMul, Int.reduceToNat, Nat.reduceEqDiff, Nat.reduceBEq, Nat.reduceBneDiff]
  refine callk (cShort a _ ha (by omega) (by omega)) ?_
  conv => simp (maxSteps := 2000000) (disch := omega) only [go_sem, Nat.reduceAdd, Nat.reduceSub, Nat.reduceMul, Int.reduceToNat, Nat.reduceEqDiff, Nat.reduceBEq, Nat.reduceBneDiff]
  have hr0 : 0 ≤ num a % b.getD 0 0 := Int.emod_nonneg _ (by omega)
  have hr1 : num a % b.getD 0 0 < b.getD 0 0 := Int.emod_lt_of_pos _ (by omega)
  refine callk (cTrim [num a % b.getD 0 0] (by simp)) ?_
  conv => simp (maxSteps := 2000000) (disch := omega) only [go_sem, Nat.reduceAdd, Nat.reduceSub, Nat.reduceMul, Int.reduceToNat, Nat.reduceEqDiff, Nat.reduceBEq, Nat.reduceBneDiff]
  refine ⟨_, rfl, ?_⟩
  have hd : digits [num a % b.getD 0 0] := digits.cons (by omega) digits.nil
  have := trim_data (L := [num a % b.getD 0 0]) (n := num a % num b) hd (by rw [hbn]; simp [num])
  simp only [List.length_cons, List.length_nil, Nat.zero_add] at this
  rw [this, hbn]
  exact .tup (.cons (.refl _) (.cons (.refl _) .nil))

end Go.Slot.T

/- Contracts of package big: div, the long way. -/
namespace Go.Slot.T
open Go Go.RowKit Go.Slot
open Go.Proofs.Try (prog)
set_option maxRecDepth 10000
set_option maxHeartbeats 8000000

theorem cDivBig' (a b : List Int) (Uf Vf : Nat → List Int) (hUf : ∀ s : Nat, Uf s = dig (num a * (s : Int)).toNat) (hVf : ∀ s : Nat, Vf s = dig (num b * (s : Int)).toNat) (ha : digits a) (na : norm a) (hb : digits b) (nb : norm b) (la : a.length ≤ 1073741824) (lb : 2 ≤ b.length) (hle : num b ≤ num a) :
    CallsTo prog 68 [.one (.ints .i64 a), .one (.ints .i64 b)] (.tup [.one (.ints .i64 (dig (num a / num b).toNat)), .one (.ints .i64 (dig (num a % num b).toNat))]) := by
  have hord : ¬ ord (num a) (num b) < 0 := by unfold ord; rw [if_neg (by omega)]; split <;> decide
  have hbp := norm.pos hb nb (fun e => by rw [e] at lb; simp at lb)
  have hlab : b.length ≤ a.length := Nat.le_of_not_lt (fun h => by have := ord_len ha na hb nb h; omega)
  refine CallsTo.run [(12, [.frz 60]), (22, [.join]), (23, [.frz 56, .frz 75])] Go.Proofs.Try.func68 rfl rfl ?_; conv => simp (maxSteps := 2000000) (disch := omega) only [go_sem, Nat.reduceAdd, Nat.reduceSub, Nat.reduceMul, Int.reduceToNat, Nat.reduceEqDiff, Nat.reduceBEq, Nat.reduceBneDiff, Go.Proofs.Try.f68, List.replicate]
  refine callk (cCompare a b ha na hb nb (by omega) (by omega)) ?_
  conv => simp (maxSteps := 2000000) (disch := omega) only [go_sem, Nat.reduceAdd, Nat.reduceSub, Nat.reduceMul, Int.reduceToNat, Nat.reduceEqDiff, Nat.reduceBEq, Nat.reduceBneDiff]
  refine condd (fun h => absurd h hord) (fun _ => ?_)
  conv => simp (maxSteps := 2000000) (disch := omega) only [go_sem, Nat.reduceAdd, Nat.reduceSub, Nat.reduceMul, Int.reduceToNat, Nat.reduceEqDiff, Nat.reduceBEq, Nat.reduceBneDiff]
  refine condd (fun h => absurd h (by omega)) (fun h => ?_)
  have htop : 1 ≤ b.getD (b.length - 1) 0 ∧ b.getD (b.length - 1) 0 ≤ 1048575 := by
    have h1 := hb.getD (b.length - 1)
    have h2 := nb (fun e => by rw [e] at lb; simp at lb)
    omega
  have eb : ((b.length : Int) - 1).toNat = b.length - 1 := by omega
  conv => simp (maxSteps := 2000000) (disch := omega) only [go_sem, Nat.reduceAdd, Nat.reduceSub, Nat.reduceMul, Int.reduceToNat, Nat.reduceEqDiff, Nat.reduceBEq, Nat.reduceBneDiff]
  refine loopo [0, 1] (fun s : Nat => [(8, .one (.raw (.int .i64 (s : Int))))])
    (fun s => 1 ≤ s ∧ s ≤ 1048575) (fun s => 1048576 - s) 1
    (by omega) ?_ ?_
  · conv => simp (maxSteps := 2000000) (disch := omega) only [go_sem, Nat.reduceAdd, Nat.reduceSub, Nat.reduceMul, Int.reduceToNat, Nat.reduceEqDiff, Nat.reduceBEq, Nat.reduceBneDiff]
    exact StLe.weaken (by repeat' first | exact .nil | refine .cons (by first | exact .refl _ | exact .any _) ?_) rfl
  rintro s ⟨hs1, hs2⟩
  conv => simp (maxSteps := 2000000) (disch := omega) only [go_sem, Nat.reduceAdd, Nat.reduceSub, Nat.reduceMul, Int.reduceToNat, Nat.reduceEqDiff, Nat.reduceBEq, Nat.reduceBneDiff, eb]
  have hprod : 0 ≤ b.getD (b.length - 1) 0 * (s : Int) ∧ b.getD (b.length - 1) 0 * (s : Int) ≤ 1048575 * 1048575 := ⟨Int.mul_nonneg (by omega) (by omega), Int.mul_le_mul htop.2 (by omega) (by omega) (by decide)⟩
  conv => simp (maxSteps := 2000000) (disch := omega) only [go_sem, Nat.reduceAdd, Nat.reduceSub, Nat.reduceMul, Int.reduceToNat, Nat.reduceEqDiff, Nat.reduceBEq, Nat.reduceBneDiff, eb]
  refine condd (fun h1 => ?_) (fun h1 => ?_)
  · have hs : (s : Int) < 524288 := by
      have := Int.mul_le_mul_of_nonneg_right htop.1 (show (0 : Int) ≤ s by omega)
      omega
    conv => simp (maxSteps := 2000000) (disch := omega) only [go_sem, Nat.reduceAdd, Nat.reduceSub, Nat.reduceMul, Int.reduceToNat, Nat.reduceEqDiff, Nat.reduceBEq, Nat.reduceBneDiff]
    exact ⟨2 * s, by omega, by omega, by simp only [go_sem, Int.natCast_mul, Int.mul_comm]; exact StLe.weaken (by repeat' first | exact .nil | refine .cons (by first | exact .refl _ | exact .any _) ?_) rfl⟩
  conv => simp (maxSteps := 2000000) (disch := omega) only [go_sem, Nat.reduceAdd, Nat.reduceSub, Nat.reduceMul, Int.reduceToNat, Nat.reduceEqDiff, Nat.reduceBEq, Nat.reduceBneDiff]
  have hds : digits [(s : Int)] := digits.cons (by omega) digits.nil
  have hns : num [(s : Int)] = s := by simp [num]
  refine callk (cMul' a [(s : Int)] ha hds (by omega) (by simp)) ?_
  have hna0 : 0 ≤ num a * s := Int.mul_nonneg (by omega) (by omega)
  have hnb0 : 0 < num b * s := Int.mul_pos hbp (by omega)
  rw [hns]
  have hU := hUf s
  have hV := hVf s
  have hUd : digits (Uf s) := by rw [hU]; exact dig_digits _
  have hVd : digits (Vf s) := by rw [hV]; exact dig_digits _
  have hUn : num (Uf s) = num a * s := by rw [hU, num_dig]; omega
  have hVn : num (Vf s) = num b * s := by rw [hV, num_dig]; omega
  have hVnorm : norm (Vf s) := by rw [hV]; exact dig_norm _
  have hxs : ∀ x : Int, 0 ≤ x → x ≤ x * s := fun x hx => by
    have := Int.mul_le_mul_of_nonneg_left (show (1 : Int) ≤ s by omega) hx
    rwa [Int.mul_one] at this
  have haU : a.length ≤ (Uf s).length := by
    have e := congrArg List.length (dig_eq ha na)
    rw [hU, e]
    refine dig_len_le ?_
    have := hxs (num a) (by omega)
    omega
  have hbV : b.length ≤ (Vf s).length := by
    have e := congrArg List.length (dig_eq hb nb)
    rw [hV, e]
    refine dig_len_le ?_
    have := hxs (num b) (by omega)
    omega
  have hVU : (Vf s).length ≤ (Uf s).length := by
    rw [hU, hV]
    refine dig_len_le ?_
    have : num b * s ≤ num a * s := Int.mul_le_mul_of_nonneg_right hle (by omega)
    omega
  have hUl : (Uf s).length ≤ 1073741825 := by
    have h1 : (Uf s).length ≤ a.length + 1 := by
      rw [hU]
      apply dig_len
      have h1 := num_lt ha
      have h2 : num a * (s : Int) ≤ num a * 1048576 := Int.mul_le_mul_of_nonneg_left (by omega) (by omega)
      have h3 : ((1048576 ^ (a.length + 1) : Nat) : Int) = 1048576 ^ a.length * 1048576 := by rw [Nat.pow_succ]; simp
      omega
    omega
  rw [← hU]
  conv => simp (maxSteps := 2000000) (disch := omega) only [go_sem, Nat.reduceAdd, Nat.reduceSub, Nat.reduceMul, Int.reduceToNat, Nat.reduceEqDiff, Nat.reduceBEq, Nat.reduceBneDiff]
  refine callk (cMul' b [(s : Int)] hb hds (by omega) (by simp)) ?_
  rw [hns, ← hV]
  conv => simp (maxSteps := 2000000) (disch := omega) only [go_sem, Nat.reduceAdd, Nat.reduceSub, Nat.reduceMul, Int.reduceToNat, Nat.reduceEqDiff, Nat.reduceBEq, Nat.reduceBneDiff]
  refine condd (fun h2 => absurd h2 (by simp; omega)) (fun h2 => ?_)
  obtain ⟨u, hu⟩ : ∃ u, u = (Uf s) ++ [0] := ⟨_, rfl⟩
  rw [← hu]
  have hud : digits u := by rw [hu]; exact hUd.append (digits.cons (by decide) digits.nil)
  have hun : num u = num a * s := by rw [hu, num_append]; simp [num, hUn]
  have hul : u.length = (Uf s).length + 1 := by rw [hu]; simp
  have hVne : (Vf s) ≠ [] := fun e => by
    have := congrArg List.length e
    simp only [List.length_nil] at this
    omega
  have hV0 : 0 < num (Vf s) := norm.pos hVd hVnorm hVne
  obtain ⟨m, hm⟩ : ∃ m, u.length = m + (Vf s).length := ⟨u.length - (Vf s).length, by omega⟩
  have hm1 : ((u.length : Int) - (Vf s).length).toNat = m := by omega
  have hult : num u < num (Vf s) * 1048576 ^ m := by
    rw [hun, ← hUn]
    have h3 := num_lt hUd
    have h4 := num_ge hVd hVnorm hVne
    have h5 := Int.mul_le_mul_of_nonneg_right h4 (Int.le_of_lt (pow_pos' m))
    have e : (Uf s).length = (Vf s).length - 1 + m := by omega
    rw [e, Int.pow_add] at h3
    omega
  have hord2 : u.length ≤ 1073741826 := by omega
  clear hu h2
  conv => simp (maxSteps := 2000000) (disch := omega) only [go_sem, Nat.reduceAdd, Nat.reduceSub, Nat.reduceMul, Int.reduceToNat, Nat.reduceEqDiff, Nat.reduceBEq, Nat.reduceBneDiff, hm1]
  refine loopo [8, 9, 10, 11, 12] (fun x : Nat × List Int × List Int => [(13, .one (.raw (.int .i64 ((x.1 : Int) - 1)))), (56, .arr [] (.ints .i64 x.2.1) none), (75, .arr [] (.ints .i64 x.2.2) none)])
    (fun x => x.1 ≤ m ∧ x.2.1.length = u.length ∧ digits x.2.1 ∧ x.2.2.length = m ∧ digits x.2.2 ∧ num a * s = num (Vf s) * (1048576 ^ x.1 * num (x.2.2.drop x.1)) + num x.2.1 ∧ num x.2.1 < num (Vf s) * 1048576 ^ x.1)
    (fun x => x.1) (m, u, List.replicate m 0)
    ⟨Nat.le_refl _, rfl, hud, by simp, digits.rep _, by simp [num, hun], hult⟩ ?_ ?_
  · conv => simp (maxSteps := 2000000) (disch := omega) only [go_sem, Nat.reduceAdd, Nat.reduceSub, Nat.reduceMul, Int.reduceToNat, Nat.reduceEqDiff, Nat.reduceBEq, Nat.reduceBneDiff]
    exact StLe.weaken (by repeat' first | exact .nil | refine .cons (by first | exact .refl _ | exact .any _) ?_) rfl
  rintro ⟨j, w, q⟩ ⟨hj, hw, hwd, hq, hqd, he, hlt⟩
  simp only at hj hw hwd hq hqd he hlt
  conv => simp (maxSteps := 2000000) (disch := omega) only [go_sem, Nat.reduceAdd, Nat.reduceSub, Nat.reduceMul, Int.reduceToNat, Nat.reduceEqDiff, Nat.reduceBEq, Nat.reduceBneDiff]
  refine condd (fun h3 => ?_) (fun h3 => ?_)
  · obtain ⟨i, rfl⟩ : ∃ i, j = i + 1 := ⟨j - 1, by omega⟩
    have ei : ((i + 1 : Nat) : Int) - 1 = (i : Nat) := by omega
    have e1 : ((i : Int) + (Vf s).length).toNat = i + (Vf s).length := by omega
    have e2 : ((i : Int) + (Vf s).length - 1).toNat = i + ((Vf s).length - 1) := by omega
    have e3 : (((Vf s).length : Int) - 1).toNat = (Vf s).length - 1 := by omega
    have d1 := hwd.getD (i + (Vf s).length)
    have d2 := hwd.getD (i + ((Vf s).length - 1))
    have d3 := hVd.getD ((Vf s).length - 1)
    have d4 := hVnorm hVne
    conv => simp (maxSteps := 2000000) (disch := omega) only [go_sem, Nat.reduceAdd, Nat.reduceSub, Nat.reduceMul, Int.reduceToNat, Nat.reduceEqDiff, Nat.reduceBEq, Nat.reduceBneDiff, ei, e1, e2, e3, shl20, or20]
    refine indk (by kernel_rfl) ?_
    obtain ⟨T, hT⟩ : ∃ T, T = w.getD (i + (Vf s).length) 0 * 1048576 + w.getD (i + ((Vf s).length - 1)) 0 := ⟨_, rfl⟩
    obtain ⟨v1, hv1⟩ : ∃ v1, v1 = (Vf s).getD ((Vf s).length - 1) 0 := ⟨_, rfl⟩
    rw [← hT]
    rw [← hv1] at d3 d4
    have hT0 : 0 ≤ T ∧ T < 1099511627776 := by omega
    conv => simp (maxSteps := 2000000) (disch := omega) only [go_sem, Nat.reduceAdd, Nat.reduceSub, Nat.reduceMul, Int.reduceToNat, Nat.reduceEqDiff, Nat.reduceBEq, Nat.reduceBneDiff, ei, e1, e2, e3, ← hv1]
    have hq0 : T.tdiv v1 = T / v1 := Int.tdiv_eq_ediv_of_nonneg hT0.1
    have hm0 : T.tmod v1 = T % v1 := Int.tmod_eq_emod_of_nonneg hT0.1
    have hq1 : 0 ≤ T / v1 := Int.ediv_nonneg hT0.1 (by omega)
    have hq2 : T / v1 ≤ T := Int.ediv_le_self _ hT0.1
    have hm1' : 0 ≤ T % v1 := Int.emod_nonneg _ (by omega)
    have hm2 : T % v1 < v1 := Int.emod_lt_of_pos _ (by omega)
    have hdm := Int.emod_add_mul_ediv T v1
    rw [hq0, hm0]
    conv => simp (maxSteps := 2000000) (disch := omega) only [go_sem, Nat.reduceAdd, Nat.reduceSub, Nat.reduceMul, Int.reduceToNat, Nat.reduceEqDiff, Nat.reduceBEq, Nat.reduceBneDiff, ei, e1, e2, e3, ← hv1]
    refine indk (by kernel_rfl) ?_
    conv => simp (maxSteps := 2000000) (disch := omega) only [go_sem, Nat.reduceAdd, Nat.reduceSub, Nat.reduceMul, Int.reduceToNat, Nat.reduceEqDiff, Nat.reduceBEq, Nat.reduceBneDiff]
    have hn2 : 2 ≤ (Vf s).length := by omega
    have e4 : ((i : Int) + (Vf s).length - 2).toNat = i + ((Vf s).length - 2) := by omega
    have e5 : (((Vf s).length : Int) - 2).toNat = (Vf s).length - 2 := by omega
    have e6 : ((i : Int) + (Vf s).length + 1).toNat = i + ((Vf s).length + 1) := by omega
    have hin : i + ((Vf s).length + 1) ≤ w.length := by omega
    have hWlen : ((w.drop i).take ((Vf s).length + 1)).length = (Vf s).length + 1 := by simp; omega
    obtain ⟨u2, hu2⟩ : ∃ u2, u2 = w.getD (i + ((Vf s).length - 2)) 0 := ⟨_, rfl⟩
    obtain ⟨v2, hv2⟩ : ∃ v2, v2 = (Vf s).getD ((Vf s).length - 2) 0 := ⟨_, rfl⟩
    have hW := num_top3 _ (Vf s).length hn2 hWlen
    rw [sub_getD (by omega), sub_getD (by omega), sub_getD (by omega), ← hT, ← hu2] at hW
    have hVt := num_top2 (Vf s) (Vf s).length hn2 rfl
    rw [← hv1, ← hv2] at hVt
    have hWd : digits ((w.drop i).take ((Vf s).length + 1)) := (hwd.drop i).take _
    have hw0 := num_lt (hWd.take ((Vf s).length - 2))
    have hw1 := num_nonneg (hWd.take ((Vf s).length - 2))
    have hv0 := num_lt (hVd.take ((Vf s).length - 2))
    have hv0' := num_nonneg (hVd.take ((Vf s).length - 2))
    rw [List.length_take, hWlen, Nat.min_eq_left (by omega)] at hw0
    rw [List.length_take, Nat.min_eq_left (by omega)] at hv0
    have hP := pow_pos' ((Vf s).length - 2)
    have hW0 := num_nonneg hWd
    have du := hwd.getD (i + ((Vf s).length - 2))
    have dv := hVd.getD ((Vf s).length - 2)
    rw [← hu2] at du
    rw [← hv2] at dv
    obtain ⟨W, hWW⟩ : ∃ W, W = num ((w.drop i).take ((Vf s).length + 1)) := ⟨_, rfl⟩
    rw [← hWW] at hW hW0
    refine joino [8, 9, 10, 11, 12, 13] (fun g : Int => [(15, .one (.raw (.int .i64 g)))])
      (fun g => 0 ≤ g ∧ g ≤ 1048575 ∧ W < (g + 1) * num (Vf s) ∧ (g - 1) * num (Vf s) ≤ W) ?_ ?_
    · conv => simp (maxSteps := 2000000) (disch := omega) only [go_sem, Nat.reduceAdd, Nat.reduceSub, Nat.reduceMul, Int.reduceToNat, Nat.reduceEqDiff, Nat.reduceBEq, Nat.reduceBneDiff]
      have hinit : W < (T / v1 + 1) * num (Vf s) := by
        refine guess_init hP hW hw0 du.2 hVt hv0' dv.1 ?_ hq1
        have : (T / v1 + 1) * v1 = v1 * (T / v1) + v1 := by grind
        omega
      refine loopo [8, 9, 10, 11, 12, 13, 14] (fun x : Int × Int => [(15, .one (.raw (.int .i64 x.1))), (16, .one (.raw (.int .i64 x.2)))])
        (fun x => 0 ≤ x.1 ∧ T = x.1 * v1 + x.2 ∧ W < (x.1 + 1) * num (Vf s) ∧ 0 ≤ x.2 ∧ x.1 ≤ T)
        (fun x => x.1.toNat) (T / v1, T % v1) ⟨hq1, by dsimp only; rw [Int.mul_comm]; omega, hinit, hm1', hq2⟩ ?_ ?_
      · conv => simp (maxSteps := 2000000) (disch := omega) only [go_sem, Nat.reduceAdd, Nat.reduceSub, Nat.reduceMul, Int.reduceToNat, Nat.reduceEqDiff, Nat.reduceBEq, Nat.reduceBneDiff]
        exact StLe.weaken (by repeat' first | exact .nil | refine .cons (by first | exact .refl _ | exact .any _) ?_) rfl
      rintro ⟨g, r⟩ ⟨hg0, hgT, hgW, hr0, hgT2⟩
      simp only at hg0 hgT hgW hr0 hgT2
      have hgv : 0 ≤ g * v1 := Int.mul_nonneg hg0 (by omega)
      have hrT : r ≤ T := by omega
      conv => simp (maxSteps := 2000000) (disch := omega) only [go_sem, Nat.reduceAdd, Nat.reduceSub, Nat.reduceMul, Int.reduceToNat, Nat.reduceEqDiff, Nat.reduceBEq, Nat.reduceBneDiff]
      have hfin : g ≤ 1048575 → (1048576 ≤ r ∨ g * v2 ≤ r * 1048576 + u2) → (g - 1) * num (Vf s) ≤ W := fun hg1 hc =>
        guess_high hP hW hw1 du.1 hVt hv0 (by omega) dv hV0 hW0 hg0 hg1 hgT hc
      have hdec : W < g * num (Vf s) → 0 < g ∧ T = (g - 1) * v1 + (r + v1) ∧ W < (g - 1 + 1) * num (Vf s) := fun h => by
        refine ⟨?_, ?_, ?_⟩
        · rcases Int.lt_or_le 0 g with h' | h'
          · exact h'
          · have : g = 0 := by omega
            subst this
            omega
        · rw [hgT]; grind
        · rw [show g - 1 + 1 = g by omega]; exact h
      refine guardn (fun h4 => ?_) (fun h4 => ?_)
      · conv => simp (maxSteps := 2000000) (disch := omega) only [go_sem, Nat.reduceAdd, Nat.reduceSub, Nat.reduceMul, Int.reduceToNat, Nat.reduceEqDiff, Nat.reduceBEq, Nat.reduceBneDiff, h4]
        refine guardd (fun h5 => ?_) (fun h5 => ?_)
        · have hgv2 : 0 ≤ g * v2 ∧ g * v2 ≤ 1048575 * 1048575 := ⟨Int.mul_nonneg hg0 dv.1, Int.mul_le_mul (by omega) dv.2 dv.1 (by decide)⟩
          conv => simp (maxSteps := 2000000) (disch := omega) only [go_sem, Nat.reduceAdd, Nat.reduceSub, Nat.reduceMul, Int.reduceToNat, Nat.reduceEqDiff, Nat.reduceBEq, Nat.reduceBneDiff, h4, h5, ei, e1, e4, e5, ← hv2, ← hu2, shl20, or20]
          refine indk (by kernel_rfl) ?_
          conv => simp (maxSteps := 2000000) (disch := omega) only [go_sem, Nat.reduceAdd, Nat.reduceSub, Nat.reduceMul, Int.reduceToNat, Nat.reduceEqDiff, Nat.reduceBEq, Nat.reduceBneDiff]
          refine condd (fun h6 => ?_) (fun h6 => ?_)
          · obtain ⟨g1, g2, g3⟩ := hdec (guess_low hP hW hw0 hVt hv0' hg0 hgT h6)
            conv => simp (maxSteps := 2000000) (disch := omega) only [go_sem, Nat.reduceAdd, Nat.reduceSub, Nat.reduceMul, Int.reduceToNat, Nat.reduceEqDiff, Nat.reduceBEq, Nat.reduceBneDiff, e3, ← hv1]
            exact ⟨(g - 1, r + v1), ⟨by dsimp only; omega, g2, g3, by dsimp only; omega, by dsimp only; omega⟩, by dsimp only; omega, StLe.weaken (by repeat' first | exact .nil | refine .cons (by first | exact .refl _ | exact .any _) ?_) rfl⟩
          · conv => simp (maxSteps := 2000000) (disch := omega) only [go_sem, Nat.reduceAdd, Nat.reduceSub, Nat.reduceMul, Int.reduceToNat, Nat.reduceEqDiff, Nat.reduceBEq, Nat.reduceBneDiff]
            exact ⟨g, ⟨hg0, by omega, hgW, hfin (by omega) (.inr (by omega))⟩, StLe.weaken (by repeat' first | exact .nil | refine .cons (by first | exact .refl _ | exact .any _) ?_) rfl⟩
        · conv => simp (maxSteps := 2000000) (disch := omega) only [go_sem, Nat.reduceAdd, Nat.reduceSub, Nat.reduceMul, Int.reduceToNat, Nat.reduceEqDiff, Nat.reduceBEq, Nat.reduceBneDiff, h4, h5]
          refine indk (by kernel_rfl) ?_
          conv => simp (maxSteps := 2000000) (disch := omega) only [go_sem, Nat.reduceAdd, Nat.reduceSub, Nat.reduceMul, Int.reduceToNat, Nat.reduceEqDiff, Nat.reduceBEq, Nat.reduceBneDiff, h4, h5]
          exact ⟨g, ⟨hg0, by omega, hgW, hfin (by omega) (.inl (by omega))⟩, StLe.weaken (by repeat' first | exact .nil | refine .cons (by first | exact .refl _ | exact .any _) ?_) rfl⟩
      · have hWB : W < num (Vf s) * 1048576 := by
          have h7 := num_three w i ((Vf s).length + 1) hin
          rw [← hWW] at h7
          have h8 := Int.mul_nonneg (Int.le_of_lt (pow_pos' (i + ((Vf s).length + 1)))) (num_nonneg (hwd.drop (i + ((Vf s).length + 1))))
          have h9 := num_nonneg (hwd.take i)
          rw [Int.pow_succ] at hlt
          refine Int.lt_of_mul_lt_mul_left (a := 1048576 ^ i) ?_ (Int.le_of_lt (pow_pos' i))
          have : (1048576 : Int) ^ i * (num (Vf s) * 1048576) = num (Vf s) * (1048576 ^ i * 1048576) := by grind
          omega
        have hlow : W < g * num (Vf s) := by
          have := Int.mul_le_mul_of_nonneg_right h4 (Int.le_of_lt hV0)
          omega
        obtain ⟨g1, g2, g3⟩ := hdec hlow
        conv => simp (maxSteps := 2000000) (disch := omega) only [go_sem, Nat.reduceAdd, Nat.reduceSub, Nat.reduceMul, Int.reduceToNat, Nat.reduceEqDiff, Nat.reduceBEq, Nat.reduceBneDiff, h4]
        refine indk (by kernel_rfl) ?_
        conv => simp (maxSteps := 2000000) (disch := omega) only [go_sem, Nat.reduceAdd, Nat.reduceSub, Nat.reduceMul, Int.reduceToNat, Nat.reduceEqDiff, Nat.reduceBEq, Nat.reduceBneDiff, h4, e3, ← hv1]
        exact ⟨(g - 1, r + v1), ⟨by dsimp only; omega, g2, g3, by dsimp only; omega, by dsimp only; omega⟩, by dsimp only; omega, StLe.weaken (by repeat' first | exact .nil | refine .cons (by first | exact .refl _ | exact .any _) ?_) rfl⟩
    · intro g hg
      have hg : 0 ≤ g ∧ g ≤ 1048575 ∧ W < (g + 1) * num (Vf s) ∧ (g - 1) * num (Vf s) ≤ W := hg
      have hg0 := hg.1
      have hg1 := hg.2.1
      have hgW := hg.2.2.1
      have hgl := hg.2.2.2
      have hsp := settled_spec hgl hgW hV0 hW0 ⟨hg0, hg1⟩
      conv => simp (maxSteps := 2000000) (disch := omega) only [go_sem, Nat.reduceAdd, Nat.reduceSub, Nat.reduceMul, Int.reduceToNat, Nat.reduceEqDiff, Nat.reduceBEq, Nat.reduceBneDiff, e6]
      rw [show i + ((Vf s).length + 1) - i = (Vf s).length + 1 by omega]
      refine ownk (settleX w (Vf s) i ((Vf s).length + 1) g hwd hVd (by omega) hin (by omega) ⟨hg0, hg1⟩ (by rw [← hWW]; exact hgl)) ?_
      rw [← hWW]
      generalize settled W (num (Vf s)) g = G at *
      obtain ⟨hG0, hG1, hG2, hG3⟩ := hsp
      obtain ⟨D, hD⟩ : ∃ D, D = fixd ((Vf s).length + 1) (W - G * num (Vf s)) := ⟨_, rfl⟩
      have hDl : D.length = (Vf s).length + 1 := by rw [hD]; exact fixd_len _ _
      have hDd : digits D := by rw [hD]; exact fixd_digits _ _
      have hGV : (G + 1) * num (Vf s) = G * num (Vf s) + num (Vf s) := by grind
      have hDn : num D = W - G * num (Vf s) := by
        rw [hD]
        refine num_fixd _ _ (by omega) ?_
        have h7 := num_lt hVd
        have h8 := pow_mono' (show (Vf s).length ≤ (Vf s).length + 1 by omega)
        omega
      rw [← hD]
      conv => simp (maxSteps := 2000000) (disch := omega) only [go_sem, Nat.reduceAdd, Nat.reduceSub, Nat.reduceMul, Int.reduceToNat, Nat.reduceEqDiff, Nat.reduceBEq, Nat.reduceBneDiff, hDl]
      have h7 := num_three w i ((Vf s).length + 1) hin
      have h8 := num_four w D i ((Vf s).length + 1) hin hDl
      rw [← hWW] at h7
      rw [hDn] at h8
      have hA0 := num_nonneg (hwd.take i)
      have hA1 := num_lt (hwd.take i)
      rw [List.length_take, Nat.min_eq_left (by omega)] at hA1
      have hX0 : num (w.drop (i + ((Vf s).length + 1))) = 0 := by
        have hX := num_nonneg (hwd.drop (i + ((Vf s).length + 1)))
        rcases Int.lt_or_le 0 (num (w.drop (i + ((Vf s).length + 1)))) with h9 | h9
        · have k1 := Int.mul_le_mul_of_nonneg_left (show (1 : Int) ≤ num (w.drop (i + ((Vf s).length + 1))) by omega) (Int.le_of_lt (pow_pos' (i + ((Vf s).length + 1))))
          have k2 := Int.mul_nonneg (Int.le_of_lt (pow_pos' i)) hW0
          have k3 := Int.mul_lt_mul_of_pos_right (num_lt hVd) (pow_pos' (i + 1))
          have k4 : (1048576 : Int) ^ (Vf s).length * 1048576 ^ (i + 1) = 1048576 ^ (i + ((Vf s).length + 1)) := by rw [← Int.pow_add]; congr 1; omega
          omega
        · omega
      rw [hX0, Int.mul_zero, Int.add_zero] at h7 h8
      refine ⟨(i, w.take i ++ D ++ w.drop (i + ((Vf s).length + 1)), q.set i G), ⟨by dsimp only; omega, ?_, ((hwd.take i).append hDd).append (hwd.drop _), by simpa using hq, hqd.set i ⟨hG0, hG1⟩, ?_, ?_⟩, by dsimp only; omega, StLe.weaken (by repeat' first | exact .nil | refine .cons (by first | exact .refl _ | exact .any _) ?_) rfl⟩
      · dsimp only
        rw [List.length_append, List.length_append, List.length_take, List.length_drop, hDl]
        omega
      · dsimp only
        rw [drop_set_self G (by omega), h8, he, h7, Int.pow_succ]
        simp only [num]
        grind
      · dsimp only
        rw [h8]
        have k1 := Int.mul_le_mul_of_nonneg_left (show W - G * num (Vf s) ≤ num (Vf s) - 1 by omega) (Int.le_of_lt (pow_pos' i))
        have k2 : (1048576 : Int) ^ i * (num (Vf s) - 1) = num (Vf s) * 1048576 ^ i - 1048576 ^ i := by grind
        omega
  · have h0 : j = 0 := by omega
    subst h0
    simp only [Int.pow_zero, Int.one_mul, List.drop_zero, Int.mul_one] at he hlt
    conv => simp (maxSteps := 2000000) (disch := omega) only [go_sem, Nat.reduceAdd, Nat.reduceSub, Nat.reduceMul, Int.reduceToNat, Nat.reduceEqDiff, Nat.reduceBEq, Nat.reduceBneDiff]
    refine callk (cTrim w (by omega)) ?_
    rw [trim_data hwd rfl]
    have hwn := num_nonneg hwd
    have hqn := num_nonneg hqd
    have e7 : num (dig (num w).toNat) = num w := by rw [num_dig]; omega
    have hlw : (dig (num w).toNat).length ≤ w.length := by rw [← trimL_eq hwd]; exact trimL_le w
    conv => simp (maxSteps := 2000000) (disch := omega) only [go_sem, Nat.reduceAdd, Nat.reduceSub, Nat.reduceMul, Int.reduceToNat, Nat.reduceEqDiff, Nat.reduceBEq, Nat.reduceBneDiff]
    refine callk (cShort (dig (num w).toNat) s (dig_digits _) (by omega) (by omega)) ?_
    rw [e7]
    conv => simp (maxSteps := 2000000) (disch := omega) only [go_sem, Nat.reduceAdd, Nat.reduceSub, Nat.reduceMul, Int.reduceToNat, Nat.reduceEqDiff, Nat.reduceBEq, Nat.reduceBneDiff]
    refine callk (cTrim q (by omega)) ?_
    rw [trim_data hqd rfl]
    conv => simp (maxSteps := 2000000) (disch := omega) only [go_sem, Nat.reduceAdd, Nat.reduceSub, Nat.reduceMul, Int.reduceToNat, Nat.reduceEqDiff, Nat.reduceBEq, Nat.reduceBneDiff]
    refine ⟨_, rfl, ?_⟩
    rw [hVn] at he hlt
    obtain ⟨hq', hr'⟩ := div_back (show (0 : Int) < s by omega) hbp he hwn hlt
    rw [hq', hr']
    exact .tup (.cons (.refl _) (.cons (.refl _) .nil))

theorem cDivBig (a b : List Int) (ha : digits a) (na : norm a) (hb : digits b) (nb : norm b) (la : a.length ≤ 1073741824) (lb : 2 ≤ b.length) (hle : num b ≤ num a) :
    CallsTo prog 68 [.one (.ints .i64 a), .one (.ints .i64 b)] (.tup [.one (.ints .i64 (dig (num a / num b).toNat)), .one (.ints .i64 (dig (num a % num b).toNat))]) :=
  cDivBig' a b (fun s => dig (num a * (s : Int)).toNat) (fun s => dig (num b * (s : Int)).toNat) (fun _ => rfl) (fun _ => rfl) ha na hb nb la lb hle
end Go.Slot.T
