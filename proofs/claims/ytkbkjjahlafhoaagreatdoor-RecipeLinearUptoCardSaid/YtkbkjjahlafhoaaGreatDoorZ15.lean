/- The proof, part Z15: Ti, Ic, I0, Im. -/
import Derived.Test.YtkbkjjahlafhoaaGreatDoorZ14
import Derived.Test.YtkbkjjahlafhoaaGreatDoorChecked
import Derived.Laws.Strings
namespace Go.Slot.T
open Go Go.RowKit Go.Slot Go.Hp
open Go.Proofs.Tryz (prog)
theorem w1 {k:TI->OR}:xdr prog 1 k=k ⟨1,8,[Cell.raw Value.nilFunc],Sh.cell⟩:=y9u (by kernel_rfl)
theorem m1:mkTI prog 1=some ⟨1,8,[Cell.raw Value.nilFunc],Sh.cell⟩:=by kernel_rfl
attribute [go_sem ↓] w1
attribute [go_sem] m1
theorem z1:vaz prog 1=some (SV.one (HC.dat (Cell.raw Value.nilFunc))):=by kernel_rfl
attribute [go_sem] z1
theorem w2 {k:TI->OR}:xdr prog 2 k=k ⟨1,8,[Cell.raw (Value.int IntKind.i64 0)],Sh.int IntKind.i64⟩:=y9u (by kernel_rfl)
theorem m2:mkTI prog 2=some ⟨1,8,[Cell.raw (Value.int IntKind.i64 0)],Sh.int IntKind.i64⟩:=by kernel_rfl
attribute [go_sem ↓] w2
attribute [go_sem] m2
theorem u2:prog.underlying 2=some (TypeDesc.int IntKind.i64):=by kernel_rfl
attribute [go_sem] u2
theorem z2:vaz prog 2=some (SV.one (HC.dat (Cell.raw (Value.int IntKind.i64 0)))):=by kernel_rfl
attribute [go_sem] z2
theorem w3 {k:TI->OR}:xdr prog 3 k=k ⟨1,8,[Cell.raw (Value.int IntKind.i64 0)],Sh.int IntKind.i64⟩:=y9u (by kernel_rfl)
theorem m3:mkTI prog 3=some ⟨1,8,[Cell.raw (Value.int IntKind.i64 0)],Sh.int IntKind.i64⟩:=by kernel_rfl
attribute [go_sem ↓] w3
attribute [go_sem] m3
theorem u3:prog.underlying 3=some (TypeDesc.int IntKind.i64):=by kernel_rfl
attribute [go_sem] u3
theorem z3:vaz prog 3=some (SV.one (HC.dat (Cell.raw (Value.int IntKind.i64 0)))):=by kernel_rfl
attribute [go_sem] z3
theorem w4 {k:TI->OR}:xdr prog 4 k=k ⟨1,1,[Cell.raw (Value.bool false)],Sh.bool⟩:=y9u (by kernel_rfl)
theorem m4:mkTI prog 4=some ⟨1,1,[Cell.raw (Value.bool false)],Sh.bool⟩:=by kernel_rfl
attribute [go_sem ↓] w4
attribute [go_sem] m4
theorem z4:vaz prog 4=some (SV.one (HC.dat (Cell.raw (Value.bool false)))):=by kernel_rfl
attribute [go_sem] z4
theorem w5 {k:TI->OR}:xdr prog 5 k=k ⟨1,1,[Cell.raw (Value.int IntKind.u8 0)],Sh.int IntKind.u8⟩:=y9u (by kernel_rfl)
theorem m5:mkTI prog 5=some ⟨1,1,[Cell.raw (Value.int IntKind.u8 0)],Sh.int IntKind.u8⟩:=by kernel_rfl
attribute [go_sem ↓] w5
attribute [go_sem] m5
theorem u5:prog.underlying 5=some (TypeDesc.int IntKind.u8):=by kernel_rfl
attribute [go_sem] u5
theorem w9 {k:TI->OR}:xdr prog 9 k=k ⟨1,16,[Cell.raw (Value.string ⟨⟨[]⟩⟩)],Sh.string⟩:=y9u (by kernel_rfl)
theorem m9:mkTI prog 9=some ⟨1,16,[Cell.raw (Value.string ⟨⟨[]⟩⟩)],Sh.string⟩:=by kernel_rfl
attribute [go_sem ↓] w9
attribute [go_sem] m9
theorem u9:prog.underlying 9=some TypeDesc.string:=by kernel_rfl
attribute [go_sem] u9
theorem z9:vaz prog 9=some (SV.one (HC.dat (Cell.raw (Value.string ⟨⟨[]⟩⟩)))):=by kernel_rfl
attribute [go_sem] z9
theorem w22 {k:TI->OR}:xdr prog 22 k=k ⟨1,24,[Cell.zc],Sh.slice 172 6 72 none⟩:=y9u (by kernel_rfl)
theorem m22:mkTI prog 22=some ⟨1,24,[Cell.zc],Sh.slice 172 6 72 none⟩:=by kernel_rfl
attribute [go_sem ↓] w22
attribute [go_sem] m22
theorem w23 {k:TI->OR}:xdr prog 23 k=k ⟨1,24,[Cell.zc],Sh.slice 64 3 48 none⟩:=y9u (by kernel_rfl)
theorem m23:mkTI prog 23=some ⟨1,24,[Cell.zc],Sh.slice 64 3 48 none⟩:=by kernel_rfl
attribute [go_sem ↓] w23
attribute [go_sem] m23
theorem w24 {k:TI->OR}:xdr prog 24 k=k ⟨1,24,[Cell.zc],Sh.slice 122 3 56 none⟩:=y9u (by kernel_rfl)
theorem m24:mkTI prog 24=some ⟨1,24,[Cell.zc],Sh.slice 122 3 56 none⟩:=by kernel_rfl
attribute [go_sem ↓] w24
attribute [go_sem] m24
theorem w25 {k:TI->OR}:xdr prog 25 k=k ⟨1,24,[Cell.zc],Sh.slice 129 7 112 none⟩:=y9u (by kernel_rfl)
theorem m25:mkTI prog 25=some ⟨1,24,[Cell.zc],Sh.slice 129 7 112 none⟩:=by kernel_rfl
attribute [go_sem ↓] w25
attribute [go_sem] m25
theorem w26 {k:TI->OR}:xdr prog 26 k=k ⟨1,24,[Cell.zc],Sh.slice 131 7 104 none⟩:=y9u (by kernel_rfl)
theorem m26:mkTI prog 26=some ⟨1,24,[Cell.zc],Sh.slice 131 7 104 none⟩:=by kernel_rfl
attribute [go_sem ↓] w26
attribute [go_sem] m26
theorem w27 {k:TI->OR}:xdr prog 27 k=k ⟨1,24,[Cell.zc],Sh.slice 175 3 40 none⟩:=y9u (by kernel_rfl)
theorem m27:mkTI prog 27=some ⟨1,24,[Cell.zc],Sh.slice 175 3 40 none⟩:=by kernel_rfl
attribute [go_sem ↓] w27
attribute [go_sem] m27
theorem w28 {k:TI->OR}:xdr prog 28 k=k ⟨1,24,[Cell.zc],Sh.slice 177 3 40 none⟩:=y9u (by kernel_rfl)
theorem m28:mkTI prog 28=some ⟨1,24,[Cell.zc],Sh.slice 177 3 40 none⟩:=by kernel_rfl
attribute [go_sem ↓] w28
attribute [go_sem] m28
theorem w29 {k:TI->OR}:xdr prog 29 k=k ⟨1,24,[Cell.zc],Sh.slice 67 2 40 none⟩:=y9u (by kernel_rfl)
theorem m29:mkTI prog 29=some ⟨1,24,[Cell.zc],Sh.slice 67 2 40 none⟩:=by kernel_rfl
attribute [go_sem ↓] w29
attribute [go_sem] m29
theorem m31:mkTI prog 31=some ⟨9,208,[Cell.raw (Value.string ⟨⟨[]⟩⟩),Cell.zc,Cell.zc,Cell.zc,Cell.zc,Cell.zc,Cell.zc,Cell.zc,Cell.zc],Sh.struct [(0,1,9),(1,1,22),(2,1,23),(3,1,24),(4,1,25),(5,1,26),(6,1,27),(7,1,28),(8,1,29)]⟩:=by kernel_rfl
attribute [go_sem] m31
theorem w32 {k:TI->OR}:xdr prog 32 k=k ⟨1,24,[Cell.zc],Sh.slice 80 8 128 none⟩:=y9u (by kernel_rfl)
theorem m32:mkTI prog 32=some ⟨1,24,[Cell.zc],Sh.slice 80 8 128 none⟩:=by kernel_rfl
attribute [go_sem ↓] w32
attribute [go_sem] m32
theorem w33 {k:TI->OR}:xdr prog 33 k=k ⟨1,24,[Cell.zc],Sh.slice 51 4 64 none⟩:=y9u (by kernel_rfl)
theorem m33:mkTI prog 33=some ⟨1,24,[Cell.zc],Sh.slice 51 4 64 none⟩:=by kernel_rfl
attribute [go_sem ↓] w33
attribute [go_sem] m33
theorem z33:vaz prog 33=some (SV.one (HC.dat Cell.zc)):=by kernel_rfl
attribute [go_sem] z33
theorem w37 {k:TI->OR}:xdr prog 37 k=k ⟨1,24,[Cell.zc],Sh.slice 60 3 24 none⟩:=y9u (by kernel_rfl)
theorem m37:mkTI prog 37=some ⟨1,24,[Cell.zc],Sh.slice 60 3 24 none⟩:=by kernel_rfl
attribute [go_sem ↓] w37
attribute [go_sem] m37
theorem w38 {k:TI->OR}:xdr prog 38 k=k ⟨1,24,[Cell.zc],Sh.slice 62 4 40 none⟩:=y9u (by kernel_rfl)
theorem m38:mkTI prog 38=some ⟨1,24,[Cell.zc],Sh.slice 62 4 40 none⟩:=by kernel_rfl
attribute [go_sem ↓] w38
attribute [go_sem] m38
theorem w39 {k:TI->OR}:xdr prog 39 k=k ⟨1,24,[Cell.zc],Sh.slice 33 1 24 none⟩:=y9u (by kernel_rfl)
theorem m39:mkTI prog 39=some ⟨1,24,[Cell.zc],Sh.slice 33 1 24 none⟩:=by kernel_rfl
attribute [go_sem ↓] w39
attribute [go_sem] m39
theorem m41:mkTI prog 41=some ⟨3,72,[Cell.zc,Cell.zc,Cell.zc],Sh.struct [(0,1,37),(1,1,38),(2,1,39)]⟩:=by kernel_rfl
attribute [go_sem] m41
theorem m42:mkTI prog 42=some ⟨1,8,[Cell.raw (Value.int IntKind.i64 0)],Sh.int IntKind.i64⟩:=by kernel_rfl
attribute [go_sem] m42
theorem w47 {k:TI->OR}:xdr prog 47 k=k ⟨1,24,[Cell.zc],Sh.slice 3 1 8 (some IntKind.i64)⟩:=y9u (by kernel_rfl)
theorem m47:mkTI prog 47=some ⟨1,24,[Cell.zc],Sh.slice 3 1 8 (some IntKind.i64)⟩:=by kernel_rfl
attribute [go_sem ↓] w47
attribute [go_sem] m47
theorem m49:mkTI prog 49=some ⟨2,32,[Cell.raw (Value.int IntKind.i64 0),Cell.zc],Sh.struct [(0,1,3),(1,1,47)]⟩:=by kernel_rfl
attribute [go_sem] m49
theorem w51 {k:TI->OR}:xdr prog 51 k=k ⟨4,64,[Cell.raw (Value.int IntKind.i64 0),Cell.zc,Cell.raw (Value.int IntKind.i64 0),Cell.zc],Sh.struct [(0,2,49),(2,2,49)]⟩:=y9u (by kernel_rfl)
theorem m51:mkTI prog 51=some ⟨4,64,[Cell.raw (Value.int IntKind.i64 0),Cell.zc,Cell.raw (Value.int IntKind.i64 0),Cell.zc],Sh.struct [(0,2,49),(2,2,49)]⟩:=by kernel_rfl
attribute [go_sem ↓] w51
attribute [go_sem] m51
theorem m60:mkTI prog 60=some ⟨3,24,[Cell.raw (Value.int IntKind.i64 0),Cell.raw (Value.int IntKind.i64 0),Cell.raw (Value.int IntKind.i64 0)],Sh.struct [(0,1,3),(1,1,3),(2,1,3)]⟩:=by kernel_rfl
attribute [go_sem] m60
theorem m62:mkTI prog 62=some ⟨4,40,[Cell.raw (Value.int IntKind.i64 0),Cell.raw (Value.int IntKind.i64 0),Cell.raw (Value.int IntKind.i64 0),Cell.raw (Value.string ⟨⟨[]⟩⟩)],Sh.struct [(0,1,3),(1,1,3),(2,1,3),(3,1,9)]⟩:=by kernel_rfl
attribute [go_sem] m62
theorem m64:mkTI prog 64=some ⟨3,48,[Cell.raw (Value.string ⟨⟨[]⟩⟩),Cell.raw (Value.string ⟨⟨[]⟩⟩),Cell.raw (Value.string ⟨⟨[]⟩⟩)],Sh.struct [(0,1,9),(1,1,9),(2,1,9)]⟩:=by kernel_rfl
attribute [go_sem] m64
theorem w65 {k:TI->OR}:xdr prog 65 k=k ⟨1,24,[Cell.zc],Sh.slice 70 6 104 none⟩:=y9u (by kernel_rfl)
theorem m65:mkTI prog 65=some ⟨1,24,[Cell.zc],Sh.slice 70 6 104 none⟩:=by kernel_rfl
attribute [go_sem ↓] w65
attribute [go_sem] m65
theorem m67:mkTI prog 67=some ⟨2,40,[Cell.raw (Value.string ⟨⟨[]⟩⟩),Cell.zc],Sh.struct [(0,1,9),(1,1,65)]⟩:=by kernel_rfl
attribute [go_sem] m67
theorem w68 {k:TI->OR}:xdr prog 68 k=k ⟨1,24,[Cell.zc],Sh.slice 9 1 16 none⟩:=y9u (by kernel_rfl)
theorem m68:mkTI prog 68=some ⟨1,24,[Cell.zc],Sh.slice 9 1 16 none⟩:=by kernel_rfl
attribute [go_sem ↓] w68
attribute [go_sem] m68
theorem m70:mkTI prog 70=some ⟨6,104,[Cell.raw (Value.int IntKind.i64 0),Cell.zc,Cell.zc,Cell.raw (Value.string ⟨⟨[]⟩⟩),Cell.zc,Cell.raw (Value.int IntKind.i64 0)],Sh.struct [(0,1,3),(1,1,68),(2,1,68),(3,1,9),(4,1,68),(5,1,3)]⟩:=by kernel_rfl
attribute [go_sem] m70
theorem m80:mkTI prog 80=some ⟨8,128,[Cell.raw (Value.int IntKind.i64 0),Cell.zc,Cell.raw (Value.int IntKind.i64 0),Cell.zc,Cell.raw (Value.int IntKind.i64 0),Cell.zc,Cell.raw (Value.int IntKind.i64 0),Cell.zc],Sh.struct [(0,4,51),(4,4,51)]⟩:=by kernel_rfl
attribute [go_sem] m80
theorem m92:mkTI prog 92=some ⟨1,8,[Cell.raw (Value.map none)],Sh.map 9 33⟩:=by kernel_rfl
attribute [go_sem] m92
theorem m94:mkTI prog 94=some ⟨14,312,[Cell.raw (Value.string ⟨⟨[]⟩⟩),Cell.zc,Cell.zc,Cell.zc,Cell.zc,Cell.zc,Cell.zc,Cell.zc,Cell.zc,Cell.zc,Cell.raw (Value.map none),Cell.zc,Cell.zc,Cell.zc],Sh.struct [(0,9,31),(9,1,32),(10,1,92),(11,3,41)]⟩:=by kernel_rfl
attribute [go_sem] m94
theorem m109:mkTI prog 109=some ⟨1,8,[Cell.raw (Value.map none)],Sh.map 9 4⟩:=by kernel_rfl
attribute [go_sem] m109
theorem m112:mkTI prog 112=some ⟨2,16,[Cell.raw (Value.map none),Cell.raw (Value.bool false)],Sh.struct [(0,1,109),(1,1,4)]⟩:=by kernel_rfl
attribute [go_sem] m112
theorem w120 {k:TI->OR}:xdr prog 120 k=k ⟨1,24,[Cell.zc],Sh.slice 239 2 16 none⟩:=y9u (by kernel_rfl)
theorem m120:mkTI prog 120=some ⟨1,24,[Cell.zc],Sh.slice 239 2 16 none⟩:=by kernel_rfl
attribute [go_sem ↓] w120
attribute [go_sem] m120
theorem m122:mkTI prog 122=some ⟨3,56,[Cell.raw (Value.string ⟨⟨[]⟩⟩),Cell.raw (Value.string ⟨⟨[]⟩⟩),Cell.zc],Sh.struct [(0,1,9),(1,1,9),(2,1,120)]⟩:=by kernel_rfl
attribute [go_sem] m122
theorem w124 {k:TI->OR}:xdr prog 124 k=k ⟨1,24,[Cell.zc],Sh.slice 181 2 32 none⟩:=y9u (by kernel_rfl)
theorem m124:mkTI prog 124=some ⟨1,24,[Cell.zc],Sh.slice 181 2 32 none⟩:=by kernel_rfl
attribute [go_sem ↓] w124
attribute [go_sem] m124
theorem w125 {k:TI->OR}:xdr prog 125 k=k ⟨1,24,[Cell.zc],Sh.slice 127 5 72 none⟩:=y9u (by kernel_rfl)
theorem m125:mkTI prog 125=some ⟨1,24,[Cell.zc],Sh.slice 127 5 72 none⟩:=by kernel_rfl
attribute [go_sem ↓] w125
attribute [go_sem] m125
theorem m127:mkTI prog 127=some ⟨5,72,[Cell.raw (Value.int IntKind.i64 0),Cell.raw (Value.int IntKind.i64 0),Cell.raw (Value.string ⟨⟨[]⟩⟩),Cell.raw (Value.string ⟨⟨[]⟩⟩),Cell.zc],Sh.struct [(0,1,3),(1,1,3),(2,1,9),(3,1,9),(4,1,125)]⟩:=by kernel_rfl
attribute [go_sem] m127
theorem m129:mkTI prog 129=some ⟨7,112,[Cell.raw (Value.string ⟨⟨[]⟩⟩),Cell.zc,Cell.raw (Value.int IntKind.i64 0),Cell.raw (Value.int IntKind.i64 0),Cell.raw (Value.string ⟨⟨[]⟩⟩),Cell.raw (Value.string ⟨⟨[]⟩⟩),Cell.zc],Sh.struct [(0,1,9),(1,1,124),(2,5,127)]⟩:=by kernel_rfl
attribute [go_sem] m129
theorem m131:mkTI prog 131=some ⟨7,104,[Cell.raw (Value.string ⟨⟨[]⟩⟩),Cell.raw (Value.string ⟨⟨[]⟩⟩),Cell.raw (Value.int IntKind.i64 0),Cell.raw (Value.int IntKind.i64 0),Cell.raw (Value.string ⟨⟨[]⟩⟩),Cell.raw (Value.string ⟨⟨[]⟩⟩),Cell.zc],Sh.struct [(0,1,9),(1,1,9),(2,5,127)]⟩:=by kernel_rfl
attribute [go_sem] m131
theorem m142:mkTI prog 142=some ⟨1,8,[Cell.raw (Value.map none)],Sh.map 9 9⟩:=by kernel_rfl
attribute [go_sem] m142
theorem m143:mkTI prog 143=some ⟨1,8,[Cell.raw (Value.map none)],Sh.map 154 4⟩:=by kernel_rfl
attribute [go_sem] m143
theorem m145:mkTI prog 145=some ⟨3,24,[Cell.raw (Value.map none),Cell.raw (Value.map none),Cell.raw (Value.map none)],Sh.struct [(0,1,142),(1,1,142),(2,1,143)]⟩:=by kernel_rfl
attribute [go_sem] m145
theorem m147:mkTI prog 147=some ⟨1,8,[Cell.raw (Value.map none)],Sh.map 154 3⟩:=by kernel_rfl
attribute [go_sem] m147
theorem m148:mkTI prog 148=some ⟨1,8,[Cell.raw (Value.map none)],Sh.map 154 3⟩:=by kernel_rfl
attribute [go_sem] m148
theorem w151 {k:TI->OR}:xdr prog 151 k=k ⟨1,24,[Cell.zc],Sh.slice 154 2 24 none⟩:=y9u (by kernel_rfl)
theorem m151:mkTI prog 151=some ⟨1,24,[Cell.zc],Sh.slice 154 2 24 none⟩:=by kernel_rfl
attribute [go_sem ↓] w151
attribute [go_sem] m151
theorem m154:mkTI prog 154=some ⟨2,24,[Cell.raw (Value.int IntKind.i64 0),Cell.raw (Value.string ⟨⟨[]⟩⟩)],Sh.struct [(0,1,3),(1,1,9)]⟩:=by kernel_rfl
attribute [go_sem] m154
theorem m172:mkTI prog 172=some ⟨6,72,[Cell.raw (Value.string ⟨⟨[]⟩⟩),Cell.raw (Value.string ⟨⟨[]⟩⟩),Cell.raw (Value.int IntKind.i64 0),Cell.raw (Value.int IntKind.i64 0),Cell.raw (Value.string ⟨⟨[]⟩⟩),Cell.raw (Value.int IntKind.i64 0)],Sh.struct [(0,1,9),(1,1,9),(2,1,3),(3,1,3),(4,1,9),(5,1,3)]⟩:=by kernel_rfl
attribute [go_sem] m172
theorem m175:mkTI prog 175=some ⟨3,40,[Cell.raw (Value.string ⟨⟨[]⟩⟩),Cell.raw (Value.string ⟨⟨[]⟩⟩),Cell.raw (Value.int IntKind.i64 0)],Sh.struct [(0,1,9),(1,1,9),(2,1,3)]⟩:=by kernel_rfl
attribute [go_sem] m175
theorem m177:mkTI prog 177=some ⟨3,40,[Cell.raw (Value.string ⟨⟨[]⟩⟩),Cell.raw (Value.string ⟨⟨[]⟩⟩),Cell.raw (Value.int IntKind.i64 0)],Sh.struct [(0,1,9),(1,1,9),(2,1,3)]⟩:=by kernel_rfl
attribute [go_sem] m177
theorem m181:mkTI prog 181=some ⟨2,32,[Cell.raw (Value.string ⟨⟨[]⟩⟩),Cell.raw (Value.string ⟨⟨[]⟩⟩)],Sh.struct [(0,1,9),(1,1,9)]⟩:=by kernel_rfl
attribute [go_sem] m181
theorem m185:mkTI prog 185=some ⟨2,16,[Cell.raw (Value.int IntKind.i64 0),Cell.raw (Value.int IntKind.i64 0)],Sh.array 2 3 1⟩:=by kernel_rfl
attribute [go_sem] m185
theorem m187:mkTI prog 187=some ⟨8,56,[Cell.raw (Value.string ⟨⟨[]⟩⟩),Cell.raw (Value.int IntKind.i64 0),Cell.raw (Value.int IntKind.i64 0),Cell.raw (Value.int IntKind.i64 0),Cell.raw (Value.int IntKind.i64 0),Cell.raw (Value.bool false),Cell.raw (Value.bool false),Cell.raw (Value.bool false)],Sh.struct [(0,1,9),(1,2,185),(3,2,185),(5,1,4),(6,1,4),(7,1,4)]⟩:=by kernel_rfl
attribute [go_sem] m187
theorem m188:mkTI prog 188=some ⟨72,504,[Cell.raw (Value.string ⟨⟨[]⟩⟩),Cell.raw (Value.int IntKind.i64 0),Cell.raw (Value.int IntKind.i64 0),Cell.raw (Value.int IntKind.i64 0),Cell.raw (Value.int IntKind.i64 0),Cell.raw (Value.bool false),Cell.raw (Value.bool false),Cell.raw (Value.bool false),Cell.raw (Value.string ⟨⟨[]⟩⟩),Cell.raw (Value.int IntKind.i64 0),Cell.raw (Value.int IntKind.i64 0),Cell.raw (Value.int IntKind.i64 0),Cell.raw (Value.int IntKind.i64 0),Cell.raw (Value.bool false),Cell.raw (Value.bool false),Cell.raw (Value.bool false),Cell.raw (Value.string ⟨⟨[]⟩⟩),Cell.raw (Value.int IntKind.i64 0),Cell.raw (Value.int IntKind.i64 0),Cell.raw (Value.int IntKind.i64 0),Cell.raw (Value.int IntKind.i64 0),Cell.raw (Value.bool false),Cell.raw (Value.bool false),Cell.raw (Value.bool false),Cell.raw (Value.string ⟨⟨[]⟩⟩),Cell.raw (Value.int IntKind.i64 0),Cell.raw (Value.int IntKind.i64 0),Cell.raw (Value.int IntKind.i64 0),Cell.raw (Value.int IntKind.i64 0),Cell.raw (Value.bool false),Cell.raw (Value.bool false),Cell.raw (Value.bool false),Cell.raw (Value.string ⟨⟨[]⟩⟩),Cell.raw (Value.int IntKind.i64 0),Cell.raw (Value.int IntKind.i64 0),Cell.raw (Value.int IntKind.i64 0),Cell.raw (Value.int IntKind.i64 0),Cell.raw (Value.bool false),Cell.raw (Value.bool false),Cell.raw (Value.bool false),Cell.raw (Value.string ⟨⟨[]⟩⟩),Cell.raw (Value.int IntKind.i64 0),Cell.raw (Value.int IntKind.i64 0),Cell.raw (Value.int IntKind.i64 0),Cell.raw (Value.int IntKind.i64 0),Cell.raw (Value.bool false),Cell.raw (Value.bool false),Cell.raw (Value.bool false),Cell.raw (Value.string ⟨⟨[]⟩⟩),Cell.raw (Value.int IntKind.i64 0),Cell.raw (Value.int IntKind.i64 0),Cell.raw (Value.int IntKind.i64 0),Cell.raw (Value.int IntKind.i64 0),Cell.raw (Value.bool false),Cell.raw (Value.bool false),Cell.raw (Value.bool false),Cell.raw (Value.string ⟨⟨[]⟩⟩),Cell.raw (Value.int IntKind.i64 0),Cell.raw (Value.int IntKind.i64 0),Cell.raw (Value.int IntKind.i64 0),Cell.raw (Value.int IntKind.i64 0),Cell.raw (Value.bool false),Cell.raw (Value.bool false),Cell.raw (Value.bool false),Cell.raw (Value.string ⟨⟨[]⟩⟩),Cell.raw (Value.int IntKind.i64 0),Cell.raw (Value.int IntKind.i64 0),Cell.raw (Value.int IntKind.i64 0),Cell.raw (Value.int IntKind.i64 0),Cell.raw (Value.bool false),Cell.raw (Value.bool false),Cell.raw (Value.bool false)],Sh.array 9 187 8⟩:=by kernel_rfl
attribute [go_sem] m188
theorem w191 {k:TI->OR}:xdr prog 191 k=k ⟨1,24,[Cell.zc],Sh.slice 200 4 40 none⟩:=y9u (by kernel_rfl)
theorem m191:mkTI prog 191=some ⟨1,24,[Cell.zc],Sh.slice 200 4 40 none⟩:=by kernel_rfl
attribute [go_sem ↓] w191
attribute [go_sem] m191
theorem m195:mkTI prog 195=some ⟨2,16,[Cell.raw (Value.int IntKind.i64 0),Cell.raw (Value.int IntKind.i64 0)],Sh.struct [(0,1,3),(1,1,42)]⟩:=by kernel_rfl
attribute [go_sem] m195
theorem m200:mkTI prog 200=some ⟨4,40,[Cell.raw (Value.int IntKind.i64 0),Cell.raw (Value.string ⟨⟨[]⟩⟩),Cell.raw (Value.int IntKind.i64 0),Cell.raw (Value.int IntKind.i64 0)],Sh.struct [(0,1,3),(1,1,9),(2,1,3),(3,1,3)]⟩:=by kernel_rfl
attribute [go_sem] m200
theorem m202:mkTI prog 202=some ⟨2,32,[Cell.zc,Cell.raw (Value.int IntKind.i64 0)],Sh.struct [(0,1,191),(1,1,3)]⟩:=by kernel_rfl
attribute [go_sem] m202
theorem m220:mkTI prog 220=some ⟨1,8,[Cell.raw Value.nilFunc],Sh.cell⟩:=by kernel_rfl
attribute [go_sem] m220
theorem w224 {k:TI->OR}:xdr prog 224 k=k ⟨1,8,[Cell.raw (Value.int IntKind.u64 0)],Sh.int IntKind.u64⟩:=y9u (by kernel_rfl)
attribute [go_sem ↓] w224
theorem u224:prog.underlying 224=some (TypeDesc.int IntKind.u64):=by kernel_rfl
attribute [go_sem] u224
theorem m233:mkTI prog 233=some ⟨6,48,[Cell.raw (Value.int IntKind.i64 0),Cell.raw (Value.int IntKind.i64 0),Cell.raw (Value.int IntKind.i64 0),Cell.raw (Value.int IntKind.i64 0),Cell.raw (Value.int IntKind.i64 0),Cell.raw (Value.int IntKind.i64 0)],Sh.array 6 3 1⟩:=by kernel_rfl
attribute [go_sem] m233
theorem m235:mkTI prog 235=some ⟨10,112,[Cell.raw (Value.int IntKind.i64 0),Cell.raw (Value.int IntKind.i64 0),Cell.raw (Value.int IntKind.i64 0),Cell.raw (Value.int IntKind.i64 0),Cell.raw (Value.int IntKind.i64 0),Cell.raw (Value.int IntKind.i64 0),Cell.raw (Value.int IntKind.i64 0),Cell.zc,Cell.raw (Value.int IntKind.i64 0),Cell.zc],Sh.struct [(0,6,233),(6,4,51)]⟩:=by kernel_rfl
attribute [go_sem] m235
theorem m239:mkTI prog 239=some ⟨2,16,[Cell.raw (Value.int IntKind.i64 0),Cell.raw (Value.int IntKind.i64 0)],Sh.struct [(0,1,3),(1,1,3)]⟩:=by kernel_rfl
attribute [go_sem] m239
theorem w252 {k:TI->OR}:xdr prog 252 k=k ⟨1,24,[Cell.zc],Sh.slice 256 2 24 none⟩:=y9u (by kernel_rfl)
theorem m252:mkTI prog 252=some ⟨1,24,[Cell.zc],Sh.slice 256 2 24 none⟩:=by kernel_rfl
attribute [go_sem ↓] w252
attribute [go_sem] m252
theorem m256:mkTI prog 256=some ⟨2,24,[Cell.raw (Value.string ⟨⟨[]⟩⟩),Cell.raw (Value.int IntKind.i64 0)],Sh.struct [(0,1,9),(1,1,3)]⟩:=by kernel_rfl
attribute [go_sem] m256
theorem m265:mkTI prog 265=some ⟨13,13,[Cell.raw (Value.int IntKind.u8 0),Cell.raw (Value.int IntKind.u8 0),Cell.raw (Value.int IntKind.u8 0),Cell.raw (Value.int IntKind.u8 0),Cell.raw (Value.int IntKind.u8 0),Cell.raw (Value.int IntKind.u8 0),Cell.raw (Value.int IntKind.u8 0),Cell.raw (Value.int IntKind.u8 0),Cell.raw (Value.int IntKind.u8 0),Cell.raw (Value.int IntKind.u8 0),Cell.raw (Value.int IntKind.u8 0),Cell.raw (Value.int IntKind.u8 0),Cell.raw (Value.int IntKind.u8 0)],Sh.array 13 5 1⟩:=by kernel_rfl
attribute [go_sem] m265
theorem m285:mkTI prog 285=some ⟨1,24,[Cell.zc],Sh.slice 5 1 1 (some IntKind.u8)⟩:=by kernel_rfl
attribute [go_sem] m285
theorem u285:prog.underlying 285=some (TypeDesc.slice 5):=by kernel_rfl
attribute [go_sem] u285
theorem m293:mkTI prog 293=some ⟨3,40,[Cell.zc,Cell.raw (Value.int IntKind.i64 0),Cell.raw (Value.bool false)],Sh.struct [(0,1,191),(1,1,3),(2,1,4)]⟩:=by kernel_rfl
attribute [go_sem] m293
theorem m297:mkTI prog 297=some ⟨1,8,[Cell.raw (Value.pointer none)],Sh.cell⟩:=by kernel_rfl
attribute [go_sem] m297
theorem xvp:xdh prog 297=some 299:=by kernel_rfl
attribute [go_sem] xvp
theorem u297:prog.underlying 297=some (TypeDesc.pointer 299):=by kernel_rfl
attribute [go_sem] u297
theorem m299:mkTI prog 299=some ⟨2,32,[Cell.raw (Value.pointer none),Cell.zc],Sh.struct [(0,1,297),(1,1,285)]⟩:=by kernel_rfl
attribute [go_sem] m299
theorem zj3:xdh prog 305=some 5:=by kernel_rfl
attribute [go_sem] zj3
theorem u309:prog.underlying 309=some TypeDesc.unsafePointer:=by kernel_rfl
attribute [go_sem] u309
theorem y3a:prog.info? 299=some (xpe prog 299):=by kernel_rfl
attribute [go_sem] y3a
theorem wy6:((xpe prog 299).size != 0)=true:=by kernel_rfl
attribute [go_sem] wy6
theorem e233:wn7 prog 233=true:=by kernel_rfl
attribute [go_sem] e233
theorem xaz:(List.range 256).all (fun n=>n==233||!wn7 prog n)=true:=by kernel_rfl
theorem eAll (n:Nat) (h:n<256) (h233:n≠233):wn7 prog n=false:=by
 have:=List.all_eq_true.1 xaz n (List.mem_range.2 h)
 simpa [h233] using this
attribute [go_sem] eAll
theorem mixed:prog.follows .mixedOrders=true:=by kernel_rfl
theorem x4g {k:Bool->Prop}:vuy prog k=k true:=propext ⟨fun h=>h.2,fun h=>⟨mixed,h⟩⟩
attribute [go_sem] x4g
end Go.Slot.T
namespace Go.Hp
open Go Go.RowKit Go.Slot
variable {P:Program} {Γ:List (Nat×List Cell)} {e:List SB} {G:List (Nat×List GhH)}
theorem yw1 {p:Prop} [Decidable p] {X Y:Bool->Prop} (hx:p->decide p=true->X true) (hy:¬p->decide p=false->Y true):zu5 (decide p) true X Y:=⟨fun h=>hx (of_decide_eq_true h) h,fun h=>hy (of_decide_eq_false h) h⟩
theorem zln {p:Prop} [Decidable p] {X Y:Bool->Prop} (hx:¬p->decide p=false->X true) (hy:p->decide p=true->Y true):zu5 (decide p) false X Y:=⟨fun h=>hx (of_decide_eq_false h) h,fun h=>hy (of_decide_eq_true h) h⟩
theorem x3t {c:Bool} {X Y:Bool->Prop} (hx:c=true->X true) (hy:c=false->Y true):zu5 c true X Y:=⟨hx,hy⟩
theorem zxo {c:Bool} {X Y:Bool->Prop} (hx:c=false->X true) (hy:c=true->Y true):zu5 c false X Y:=⟨hx,hy⟩
theorem vdi {p:Prop} [Decidable p] {X Y:Bool->Prop} (hx:p->decide p=true->X true) (hy:¬p->decide p=false->Y true):y8d (decide p) X Y:=⟨fun h=>hx (of_decide_eq_true h) h,fun h=>hy (of_decide_eq_false h) h⟩
theorem zb8 {c:Bool} {X Y:Bool->Prop} (hx:c=true->X true) (hy:c=false->Y true):y8d c X Y:=⟨hx,hy⟩
theorem yvn {c:Bool} {X Y:Bool->Prop} (hx:c=false->X true) (hy:c=true->Y true):zu5 (!c) true X Y:=⟨fun h=>hx (by simpa using h),fun h=>hy (by simpa using h)⟩
theorem vgp {c:Bool} {X Y:Bool->Prop} (hx:c=true->X true) (hy:c=false->Y true):zu5 (!c) false X Y:=⟨fun h=>hx (by simpa using h),fun h=>hy (by simpa using h)⟩
theorem yks {c:Bool} {X Y:Bool->Prop} (hx:c=false->X true) (hy:c=true->Y true):y8d (!c) X Y:=⟨fun h=>hx (by simpa using h),fun h=>hy (by simpa using h)⟩
theorem hg {p q:Prop} (k:q) (h:p=q:=by conv=>lhs;simp (maxSteps:=2000000) (disch:=omega) only [go_sem,Nat.reduceAdd,Nat.reduceSub,Nat.reduceMul,Int.reduceToNat,Nat.reduceEqDiff,Nat.reduceBEq,Nat.reduceBneDiff,Nat.reduceLT,Int.reduceEq,Int.reduceLT,Int.reduceLE,Int.reduceNeg,Int.reduceAdd,Int.reduceSub,Int.reduceMul]):p:=Eq.mpr h k
theorem hgS {p q:Prop} (k:q) (h:p=q:=by conv=>lhs;simp (maxSteps:=2000000) (disch:=omega) only [go_sem,Nat.reduceAdd,Nat.reduceSub,Nat.reduceMul,Int.reduceToNat,Nat.reduceEqDiff,Nat.reduceBEq,Nat.reduceBneDiff,Nat.reduceLT,Int.reduceEq,Int.reduceLT,Int.reduceLE,Int.reduceNeg,Int.reduceAdd,Int.reduceSub,Int.reduceMul, *]):p:=Eq.mpr h k
theorem hgR {p q:Prop} (k:q) (h:p=q:=by conv=>lhs;simp (maxSteps:=2000000) (disch:=omega) only [go_sem,Nat.reduceAdd,Nat.reduceSub,Nat.reduceMul,Int.reduceToNat,Nat.reduceEqDiff,Nat.reduceBEq,Nat.reduceBneDiff,Nat.reduceLT,Int.reduceEq,Int.reduceLT,Int.reduceLE,Int.reduceNeg,Int.reduceAdd,Int.reduceSub,Int.reduceMul,List.replicate]):p:=Eq.mpr h k
theorem hfk {p q r:Prop} (k:q) (l:r) (h:q->r->p:=by with_reducible first | exact fun a b=>yw1 a b | exact fun a b=>zln a b | exact fun a b=>yvn a b | exact fun a b=>vgp a b | exact fun a b=>x3t a b | exact fun a b=>zxo a b | exact fun a b=>vdi a b | exact fun a b=>yks a b | exact fun a b=>zb8 a b):p:=h k l
theorem hik {ops:List Oper} {acc:List HR} {k:Bool->Prop} (hk:k true) (h:yzo ops acc=true:=by kernel_rfl):z2u ops acc k:=⟨h,hk⟩
theorem svl {a b:List SV} (h:yfg a b:=by repeat' first | exact .nil | refine .cons (by first | exact .refl _ | exact .any _) ?_):yfg a b:=h
theorem RLe.ofEq {x y:AV} (h:x=y):RLe x y:=h▸.one (.refl _)
theorem w4r {p:Prop} [Decidable p]:(!decide p)=decide (¬p):=by by_cases h:p<;>simp [h]
theorem lfE {x y:AV} {p:Prop} (k:p) (h:(x=y)=p:=by conv=>lhs;simp only [Bool.and_true,Bool.true_and,Bool.and_false,Bool.false_and,Bool.or_true,Bool.true_or,Bool.or_false,Bool.false_or,Bool.not_true,Bool.not_false,decide_true,decide_false,not_true_eq_false,not_false_eq_true,w4r,if_true,if_false,Bool.and_self,Bool.or_self,cond_true,cond_false,List.length_map,ne_eq,Int.reduceEq,Int.reduceLT,Int.reduceLE, *]):RLe x y:=RLe.ofEq (h.symm▸k)
theorem lf1 {x y:AV} {a p:Prop} (ra:a) (k:p) (h:a->(x=y)=p:=by intro z1;conv=>lhs;simp only [Bool.and_true,Bool.true_and,Bool.and_false,Bool.false_and,Bool.or_true,Bool.true_or,Bool.or_false,Bool.false_or,Bool.not_true,Bool.not_false,decide_true,decide_false,not_true_eq_false,not_false_eq_true,w4r,if_true,if_false,Bool.and_self,Bool.or_self,cond_true,cond_false,List.length_map,ne_eq,Int.reduceEq,Int.reduceLT,Int.reduceLE, *]):RLe x y:=RLe.ofEq ((h ra).symm▸k)
theorem lf2 {x y:AV} {a b p:Prop} (ra:a) (rb:b) (k:p) (h:a->b->(x=y)=p:=by intro z1 z2;conv=>lhs;simp only [Bool.and_true,Bool.true_and,Bool.and_false,Bool.false_and,Bool.or_true,Bool.true_or,Bool.or_false,Bool.false_or,Bool.not_true,Bool.not_false,decide_true,decide_false,not_true_eq_false,not_false_eq_true,w4r,if_true,if_false,Bool.and_self,Bool.or_self,cond_true,cond_false,List.length_map,ne_eq,Int.reduceEq,Int.reduceLT,Int.reduceLE, *]):RLe x y:=RLe.ofEq ((h ra rb).symm▸k)
theorem bsE {q p:Prop} (k:p) (h:q=p:=by conv=>lhs;simp only [Bool.and_true,Bool.true_and,Bool.and_false,Bool.false_and,Bool.or_true,Bool.true_or,Bool.or_false,Bool.false_or,Bool.not_true,Bool.not_false,decide_true,decide_false,not_true_eq_false,not_false_eq_true,w4r,if_true,if_false,Bool.and_self,Bool.or_self,cond_true,cond_false,List.length_map,ne_eq,Int.reduceEq,Int.reduceLT,Int.reduceLE, *]):q:=h.symm▸k
theorem bs1 {a q p:Prop} (ra:a) (k:p) (h:a->q=p:=by intro z1;conv=>lhs;simp only [Bool.and_true,Bool.true_and,Bool.and_false,Bool.false_and,Bool.or_true,Bool.true_or,Bool.or_false,Bool.false_or,Bool.not_true,Bool.not_false,decide_true,decide_false,not_true_eq_false,not_false_eq_true,w4r,if_true,if_false,Bool.and_self,Bool.or_self,cond_true,cond_false,List.length_map,ne_eq,Int.reduceEq,Int.reduceLT,Int.reduceLE, *]):q:=(h ra).symm▸k
theorem bs2 {a b q p:Prop} (ra:a) (rb:b) (k:p) (h:a->b->q=p:=by intro z1 z2;conv=>lhs;simp only [Bool.and_true,Bool.true_and,Bool.and_false,Bool.false_and,Bool.or_true,Bool.true_or,Bool.or_false,Bool.false_or,Bool.not_true,Bool.not_false,decide_true,decide_false,not_true_eq_false,not_false_eq_true,w4r,if_true,if_false,Bool.and_self,Bool.or_self,cond_true,cond_false,List.length_map,ne_eq,Int.reduceEq,Int.reduceLT,Int.reduceLE, *]):q:=(h ra rb).symm▸k
theorem hg1 {a p q:Prop} (ra:a) (k:q) (h:a->p=q:=by intro z1;conv=>lhs;simp (maxSteps:=2000000) (disch:=omega) only [go_sem,Nat.reduceAdd,Nat.reduceSub,Nat.reduceMul,Int.reduceToNat,Nat.reduceEqDiff,Nat.reduceBEq,Nat.reduceBneDiff,Nat.reduceLT,Int.reduceEq,Int.reduceLT,Int.reduceLE,Int.reduceNeg,Int.reduceAdd,Int.reduceSub,Int.reduceMul,z1]):p:=Eq.mpr (h ra) k
theorem hg2 {a b p q:Prop} (ra:a) (rb:b) (k:q) (h:a->b->p=q:=by intro z1 z2;conv=>lhs;simp (maxSteps:=2000000) (disch:=omega) only [go_sem,Nat.reduceAdd,Nat.reduceSub,Nat.reduceMul,Int.reduceToNat,Nat.reduceEqDiff,Nat.reduceBEq,Nat.reduceBneDiff,Nat.reduceLT,Int.reduceEq,Int.reduceLT,Int.reduceLE,Int.reduceNeg,Int.reduceAdd,Int.reduceSub,Int.reduceMul,z1,z2]):p:=Eq.mpr (h ra rb) k
theorem hg3 {a b c p q:Prop} (ra:a) (rb:b) (rc:c) (k:q) (h:a->b->c->p=q:=by intro z1 z2 z3;conv=>lhs;simp (maxSteps:=2000000) (disch:=omega) only [go_sem,Nat.reduceAdd,Nat.reduceSub,Nat.reduceMul,Int.reduceToNat,Nat.reduceEqDiff,Nat.reduceBEq,Nat.reduceBneDiff,Nat.reduceLT,Int.reduceEq,Int.reduceLT,Int.reduceLE,Int.reduceNeg,Int.reduceAdd,Int.reduceSub,Int.reduceMul,z1,z2,z3]):p:=Eq.mpr (h ra rb rc) k
def swL (i j:Nat) (η:List SB):List SB:=(List.range η.length).map fun k=>swSB i j (gB η (sw i j k))
theorem zas {i j k n:Nat} (hi:i<n) (hj:j<n) (hk:k<n):sw i j k<n:=by unfold sw;split<;>(try split)<;>omega
theorem StH.vfn {J:List SV} {η:List SB} {i j:Nat} (hi:e.length<=i) (hj:e.length<=j) (hil:i<η.length) (hjl:j<η.length):StH Γ e J η (J.map (swSV i j)) (swL i j η):=by
 refine StH.swap hi hj hil hjl (fun b x hb=>.inl ?_) (by simp [swL]);have hbl:b<η.length:=(List.getElem?_eq_some_iff.1 hb).1;unfold swL;rw [List.getElem?_map,List.getElem?_range (zas hil hjl hbl)];simp only [Option.map_some,v6z];unfold gB;rw [hb];rfl
def z6m (m:Nat) (J:List SV) (η:List SB):Bool:=(J.all fun x=>(x8g x).all fun b=>Nat.blt b m)&&((η.take m).all fun x=>(zj7 x).all fun b=>Nat.blt b m)
theorem StH.cutB {J:List SV} {η:List SB} (m:Nat) (hm:e.length<=m) (h:z6m m J η=true):StH Γ e J η J (η.take m):=by
 unfold z6m at h;rw [Bool.and_eq_true,List.all_eq_true,List.all_eq_true] at h;refine StH.cut hm (fun i x hx b hb=>?_) (fun i x hi hx=>.inr fun b hb=>?_)
 . have:=h.1 x (List.mem_of_getElem? hx)
   rw [List.all_eq_true] at this;simpa using this b hb
 . have:=h.2 x (List.mem_of_getElem? (by rw [List.getElem?_take_of_lt hi];exact hx))
   rw [List.all_eq_true] at this;simpa using this b hb
theorem StH.back {J J':List SV} {η η':List SB} (ks:List Nat) (i j m:Nat) (hi:Nat.ble e.length i=true) (hj:Nat.ble e.length j=true) (hm:Nat.ble e.length m=true) (hil:Nat.blt i η.length=true) (hjl:Nat.blt j η.length=true) (h:z6m m ((v4u ks 0 J).map (swSV i j)) (swL i j η)=true)
 (hk:StH Γ e ((v4u ks 0 J).map (swSV i j)) ((swL i j η).take m) J' η'):StH Γ e J η J' η':=
 StH.trans (StH.only ks) (StH.trans (StH.vfn (by simpa using hi) (by simpa using hj) (by simpa using hil) (by simpa using hjl)) (StH.trans (StH.cutB m (by simpa using hm) h) hk))
theorem StH.same {J:List SV} {η:List SB} {J':List SV} {η':List SB} (h:yfg J J') (hη:η=η'):StH Γ e J η J' η':=hη▸StH.yxu h
theorem StH.done {J J':List SV} {η η':List SB} (m:Nat) (hm:Nat.ble e.length m=true) (h:z6m m J η=true) (hσ:J=J') (hη:η.take m=η'):StH Γ e J η J' η':=
 hσ▸hη▸StH.cutB m (by simpa using hm) h
theorem y71.of {φ:List Nat} {η ηs:List SB} (h:φ.map (fun j=>η[j]?)=ηs.map (fun x=>some (rnSB (atR φ η.length) x))):y71 φ η ηs:=by
 have hl:ηs.length=φ.length:=by
  have:=congrArg List.length h
  simpa using this.symm
 refine ⟨hl,fun i x hx=>?_⟩;have hi:i<ηs.length:=(List.getElem?_eq_some_iff.1 hx).1;refine ⟨φ[i]'(by omega),List.getElem?_eq_getElem _,?_⟩;have h1:=congrArg (fun l=>l[i]?) h;simp only [List.getElem?_map,hx,Option.map_some] at h1;rw [List.getElem?_eq_getElem (by omega)] at h1;simpa using h1
theorem z00.at (φ:List Nat) {f:FuncId} {η ηs ηs':List SB} {args:List SV} {res:SV} (h:z00 Γ P f ηs args ηs' res) (hn:φ.Nodup) (hb:(φ.all fun j=>Nat.blt j η.length)=true)
 (hp:φ.map (fun j=>η[j]?)=ηs.map (fun x=>some (rnSB (atR φ η.length) x))) (hlen:Nat.ble φ.length ηs'.length=true):z00 Γ P f η (args.map (wi2 (atR φ η.length))) (putR φ η ηs') (rnSV (atR φ η.length) res):=
 z00.frame hn (fun j hj=>by simpa using List.all_eq_true.1 hb j hj) (y71.of hp) (by simpa using hlen) h
theorem xdg (φ:List Nat) {f:FuncId} {η ηs ηs':List SB} {args l:List SV} {res:SV} {K:Bool->List SB->SV->Prop} (h:z00 Γ P f ηs args ηs' res) (hl:args.map (wi2 (atR φ η.length))=l) (hn:φ.Nodup) (hb:(φ.all fun j=>Nat.blt j η.length)=true)
 (hp:φ.map (fun j=>η[j]?)=ηs.map (fun x=>some (rnSB (atR φ η.length) x))) (hlen:Nat.ble φ.length ηs'.length=true) (hk:K true (putR φ η ηs') (rnSV (atR φ η.length) res)):w4x Γ P f η l K:=
 hl▸xmm (z00.at φ h hn hb hp hlen) hk
theorem xju {a b:ByteArray}:seq a b=decide (a=b):=by
 unfold seq;rw [ByteArray.toList_eq,ByteArray.toList_eq];by_cases h:a=b
 . rw [h];simp
 . rw [decide_eq_false h]
   have:a.data.toList≠b.data.toList:=fun he=>h (ByteArray.ext (Array.toList_inj.1 he))
   simpa using this
theorem v2l {s:ByteArray}:seq s ⟨#[]⟩=decide (s.size=0):=by
 rw [xju];refine decide_eq_decide.2 ⟨fun h=>by rw [h];rfl,fun h=>ByteArray.ext (Array.eq_empty_of_size_eq_zero h)⟩
theorem w8 {n:Int} (h:0<=n/\n<=255):IntKind.u8.wrap n=n:=by rw [IntKind.wrap_u8];omega
attribute [go_sem] w8
theorem xb8 {n:Nat}:((n:Int)-1).toNat=n-1:=by omega
theorem zus {n:Nat}:((n:Int)+1).toNat=n+1:=by omega
attribute [go_sem] xb8 zus
theorem yjj {J:List SV} {t:Nat}:gt (J.map vw) t=vw (gtS J t):=zci t
attribute [go_sem] yjj v8h valB elemAt
attribute [go_sem] v2l w4r List.size_toArray List.length_map List.getD_cons_zero List.getD_cons_succ
attribute [go_sem] yzr xh4 xvf eqOf litH wlk wdh zua usdH usH y6m ylg w8b zhk eqL
attribute [go_sem] putR atR rnSB rnHC wi2 rnSV List.zip_cons_cons List.zip_nil_left List.zip_nil_right List.drop_succ_cons
attribute [go_sem] swSV ym6 swHC swSB sw List.map_nil
end Go.Hp
namespace Go.Hp
open Go Go.RowKit Go.Slot
variable {P:Program} {Γ:List (Nat×List Cell)} {e:List SB}
theorem hF {p q r q' r':Prop} (k:q') (l:r') (h:q->r->p:=by with_reducible first | exact fun a b=>yw1 a b | exact fun a b=>zln a b | exact fun a b=>yvn a b | exact fun a b=>vgp a b | exact fun a b=>x3t a b | exact fun a b=>zxo a b | exact fun a b=>vdi a b | exact fun a b=>yks a b | exact fun a b=>zb8 a b)
 (e1:q'->q:=by first | exact fun (k:_->_->_) a b=>hgS (k a b) | exact fun (k:_->_) a=>hgS (k a)) (e2:r'->r:=by first | exact fun (k:_->_->_) a b=>hgS (k a b) | exact fun (k:_->_) a=>hgS (k a)):p:=h (e1 k) (e2 l)
theorem hI {ops:List Oper} {acc:List HR} {k:Bool->Prop} {q:Prop} (hk:q) (h:yzo ops acc=true:=by kernel_rfl) (e:k true=q:=by conv=>lhs;simp (maxSteps:=2000000) (disch:=omega) only [go_sem,Nat.reduceAdd,Nat.reduceSub,Nat.reduceMul,Int.reduceToNat,Nat.reduceEqDiff,Nat.reduceBEq,Nat.reduceBneDiff,Nat.reduceLT,Int.reduceEq,Int.reduceLT,Int.reduceLE,Int.reduceNeg,Int.reduceAdd,Int.reduceSub,Int.reduceMul, *]):z2u ops acc k:=⟨h,e▸hk⟩
theorem hca (φ:List Nat) {f:FuncId} {η ηs ηs':List SB} {args l:List SV} {res:SV} {K:Bool->List SB->SV->Prop} {q:Prop} (h:z00 Γ P f ηs args ηs' res) (k:q) (hl:args.map (wi2 (atR φ η.length))=l:=by exact rfl) (hn:φ.Nodup:=by decide) (hb:(φ.all fun j=>Nat.blt j η.length)=true:=by exact rfl)
 (hp:φ.map (fun j=>η[j]?)=ηs.map (fun x=>some (rnSB (atR φ η.length) x)):=by exact rfl) (hlen:Nat.ble φ.length ηs'.length=true:=by exact rfl)
 (hk:K true (putR φ η ηs') (rnSV (atR φ η.length) res)=q:=by conv=>lhs;simp (maxSteps:=2000000) (disch:=omega) only [go_sem,Nat.reduceAdd,Nat.reduceSub,Nat.reduceMul,Int.reduceToNat,Nat.reduceEqDiff,Nat.reduceBEq,Nat.reduceBneDiff,Nat.reduceLT,Int.reduceEq,Int.reduceLT,Int.reduceLE,Int.reduceNeg,Int.reduceAdd,Int.reduceSub,Int.reduceMul]):w4x Γ P f η l K:=
 xdg φ h hl hn hb hp hlen (hk▸k)
theorem hE (G:List (Nat×List GhH)) {f:FuncId} {fn fn':Func} {c:Code} {args:List AV} {sl:List SV} {res:AV} {q:Prop} {rs:List ResultVar} {n:Nat} (hf:P.funcs[f]? = some fn) (he:fn=fn') (k:q) (hr:fn'.results.toList=rs:=by dsimp only) (hn:fn'.ntmps=n:=by dsimp only) (hb:fn'.body=some c:=by exact rfl) (hname:(fn'.name == "runtime.NumGoroutine")=false:=by exact rfl) (ha:x3n args=some sl:=by exact rfl)
 (h:RH Γ P [] G c true (yhq P rs res) (x9c (sl++List.replicate (n-sl.length) .undef)) []=q:=by conv=>lhs;simp (maxSteps:=2000000) (disch:=omega) only [go_sem,Nat.reduceAdd,Nat.reduceSub,Nat.reduceMul,Int.reduceToNat,Nat.reduceEqDiff,Nat.reduceBEq,Nat.reduceBneDiff,Nat.reduceLT,Int.reduceEq,Int.reduceLT,Int.reduceLE,Int.reduceNeg,Int.reduceAdd,Int.reduceSub,Int.reduceMul,List.replicate]):CallsD Γ P f args res:=by
 subst he hr hn;exact CallsD.run G hf hb hname ha (h▸k)
theorem hEh (G:List (Nat×List GhH)) {f:FuncId} {fn fn':Func} {c:Code} {η η':List SB} {args:List SV} {res:SV} {q:Prop} {rs:List ResultVar} {n:Nat} (hf:P.funcs[f]? = some fn) (he:fn=fn') (k:q) (hr:fn'.results.toList=rs:=by dsimp only) (hn:fn'.ntmps=n:=by dsimp only) (hb:fn'.body=some c:=by exact rfl) (hname:(fn'.name == "runtime.NumGoroutine")=false:=by exact rfl)
 (h:RH Γ P η G c true (v49 Γ P η rs η' res) (x9c (args++List.replicate (n-args.length) .undef)) η=q:=by conv=>lhs;simp (maxSteps:=2000000) (disch:=omega) only [go_sem,Nat.reduceAdd,Nat.reduceSub,Nat.reduceMul,Int.reduceToNat,Nat.reduceEqDiff,Nat.reduceBEq,Nat.reduceBneDiff,Nat.reduceLT,Int.reduceEq,Int.reduceLT,Int.reduceLE,Int.reduceNeg,Int.reduceAdd,Int.reduceSub,Int.reduceMul,List.replicate]):z00 Γ P f η args η' res:=by
 subst he hr hn;exact z00.run G hf hb hname (h▸k)
theorem sS {J:List SV} {η:List SB} {J':List SV} {η':List SB} (h:yfg J J':=by exact svl) (hη:η=η':=by exact rfl):StH Γ e J η J' η':=StH.same h hη
theorem hg4 {a b c d p q:Prop} (ra:a) (rb:b) (rc:c) (rd:d) (k:q) (h:a->b->c->d->p=q:=by intro z1 z2 z3 z4;conv=>lhs;simp (maxSteps:=2000000) (disch:=omega) only [go_sem,Nat.reduceAdd,Nat.reduceSub,Nat.reduceMul,Int.reduceToNat,Nat.reduceEqDiff,Nat.reduceBEq,Nat.reduceBneDiff,Nat.reduceLT,Int.reduceEq,Int.reduceLT,Int.reduceLE,Int.reduceNeg,Int.reduceAdd,Int.reduceSub,Int.reduceMul,z1,z2,z3,z4]):p:=Eq.mpr (h ra rb rc rd) k
theorem hg5 {a b c d e p q:Prop} (ra:a) (rb:b) (rc:c) (rd:d) (re:e) (k:q) (h:a->b->c->d->e->p=q:=by intro z1 z2 z3 z4 z5;conv=>lhs;simp (maxSteps:=2000000) (disch:=omega) only [go_sem,Nat.reduceAdd,Nat.reduceSub,Nat.reduceMul,Int.reduceToNat,Nat.reduceEqDiff,Nat.reduceBEq,Nat.reduceBneDiff,Nat.reduceLT,Int.reduceEq,Int.reduceLT,Int.reduceLE,Int.reduceNeg,Int.reduceAdd,Int.reduceSub,Int.reduceMul,z1,z2,z3,z4,z5]):p:=Eq.mpr (h ra rb rc rd re) k
theorem hg6 {a b c d e f p q:Prop} (ra:a) (rb:b) (rc:c) (rd:d) (re:e) (rf:f) (k:q) (h:a->b->c->d->e->f->p=q:=by intro z1 z2 z3 z4 z5 z6;conv=>lhs;simp (maxSteps:=2000000) (disch:=omega) only [go_sem,Nat.reduceAdd,Nat.reduceSub,Nat.reduceMul,Int.reduceToNat,Nat.reduceEqDiff,Nat.reduceBEq,Nat.reduceBneDiff,Nat.reduceLT,Int.reduceEq,Int.reduceLT,Int.reduceLE,Int.reduceNeg,Int.reduceAdd,Int.reduceSub,Int.reduceMul,z1,z2,z3,z4,z5,z6]):p:=Eq.mpr (h ra rb rc rd re rf) k
end Go.Hp
namespace Go.Hp.T
open Go Go.RowKit Go.Slot Go.Hp
set_option maxRecDepth 10000
theorem toD {Γ:List (Nat×List Cell)} {P:Program} {f:FuncId} {args:List AV} {res:AV} (h:CallsD Γ P f args res):CallsD Γ P f args res:=h
abbrev cI (n:Int):Cell:=.raw (.int .i64 n)
abbrev c8 (n:Int):Cell:=.raw (.int .u8 n)
abbrev cS (s:ByteArray):Cell:=.raw (.string s)
abbrev cB (b:Bool):Cell:=.raw (.bool b)
abbrev fN (f:FuncId):AV:=.one (.raw (.func (.func f) #[] #[]))
def wli (s:ByteArray):List Int:=(List.range s.size).map (zk7 s)
theorem wl6 (s:ByteArray):(wli s).length=s.size:=by simp [wli]
theorem v97 (s:ByteArray) (i:Nat) (h:i<s.size):(wli s)[i]? = some (zk7 s i):=by simp [wli,h]
def ycl (p:Int->Bool) (s:ByteArray):Nat:=((wli s).takeWhile p).length
theorem y9r {α:Type} (p:α->Bool):∀(l:List α) (n:Nat),n<=l.length->(∀ j x,j<n->l[j]? = some x->p x=true)->(n=l.length\/∃ x,l[n]? = some x/\p x=false)->(l.takeWhile p).length=n
 | [],n,hn,_,_=>by simp at hn;simp [hn]
 | a::l,0,_,_,h=>by
  rcases h with h | ⟨x,hx,hp⟩
  . simp at h
  . simp at hx;subst hx;simp [List.takeWhile,hp]
 | a::l,n+1,hn,hj,h=>by
  have ha:p a=true:=hj 0 a (by omega) rfl;rw [List.takeWhile_cons_of_pos ha,List.length_cons,y9r p l n (by simpa using hn) (fun j x h1 h2=>hj (j+1) x (by omega) (by simpa using h2)) ?_]
  rcases h with h | ⟨x,hx,hp⟩
  . exact .inl (by simpa using h)
  . exact .inr ⟨x,by simpa using hx,hp⟩
theorem xba {p:Int->Bool} {s:ByteArray} {n:Nat} (hn:n<=s.size) (hj:∀ j,j<n->p (zk7 s j)=true) (h:n=s.size\/p (zk7 s n)=false):ycl p s=n:=by
 refine y9r p _ n (by rw [wl6];exact hn) (fun j x h1 h2=>?_) ?_
 . rw [v97 s j (by omega)] at h2;cases h2;exact hj j h1
 . by_cases e:n=s.size
   . exact .inl (by rw [wl6];exact e)
   . rcases h with h | h
     . exact absurd h e
     . exact .inr ⟨_,v97 s n (by omega),h⟩
theorem xd2 (p:Int->Bool) (s:ByteArray):ycl p s<=s.size:=by
 have:=(List.takeWhile_sublist p (l:=wli s)).length_le
 rw [wl6] at this;exact this
def xmn (c:Int):Bool:=(decide (97<=c)&&decide (c<=122))||(decide (65<=c)&&decide (c<=90))
def isDigit (c:Int):Bool:=decide (48<=c)&&decide (c<=57)
def yb9 (c:Int):Bool:=xmn c||isDigit c||decide (c=95)
def y8r (c:Int):Bool:=decide (32<=c)&&decide (c<=126)
def isName (s:ByteArray):Bool:=decide (¬s.size=0)&&xmn (zk7 s 0)&&decide ((s.size:Int)<=20)&&decide ((ycl yb9 s:Int)=s.size)
def wgm (s:ByteArray):Bool:=!(decide (400<(s.size:Int))||decide (¬(ycl y8r s:Int)=s.size))
def escB (c:Int):List Int:=bif decide (c=34)||decide (c=92) then [92,c] else [c]
def escA (s:ByteArray) (i:Nat):List Int:=34::((wli s).take i).flatMap escB
def escS (s:ByteArray):ByteArray:=strOfNums (escA s s.size++[34])
theorem yq8 {s:ByteArray} {i:Nat} (h:i<s.size):escA s (i+1)=escA s i++escB (zk7 s i):=by
 unfold escA
 have:(wli s).take (i+1)=(wli s).take i++[zk7 s i]:=by
  rw [List.take_add_one,v97 s i h];rfl
 rw [this];simp
theorem yfd (s:ByteArray) (i:Nat):xug (zk7 s i)=true:=by
 unfold xug zk7
 have:=((s.data[i]?).getD 0).toNat_lt
 simp;omega
theorem vdq {c:Int} (h:xug c=true):(escB c).all xug=true:=by
 unfold escB
 have h':0<=c/\c<256:=by simpa [xug] using h
 cases decide (c=34)||decide (c=92)<;>simp [xug,h']
theorem wyj (s:ByteArray) (i:Nat):(escA s i).all xug=true:=by
 have hb:∀ c∈wli s,xug c=true:=fun c hc=>by
  simp only [wli,List.mem_map] at hc;obtain ⟨j,_,rfl⟩:=hc;exact yfd s j
 unfold escA;rw [List.all_cons,Bool.and_eq_true];refine ⟨rfl,?_⟩;rw [List.all_flatMap,List.all_eq_true]
 exact fun c hc=>vdq (hb c (List.mem_of_mem_take hc))
theorem zmg (c:Int):(escB c).length<=2:=by unfold escB;cases decide (c=34)||decide (c=92)<;>simp
theorem xko:∀ l:List Int,(l.flatMap escB).length<=2*l.length
 | []=>by simp
 | c::l=>by
  have:=xko l
  have:=zmg c
  simp only [List.flatMap_cons,List.length_append,List.length_cons];omega
theorem x7n (s:ByteArray) (i:Nat):1<=(escA s i).length/\(escA s i).length<=1+2*s.size:=by
 unfold escA
 have:=xko ((wli s).take i)
 have h2:((wli s).take i).length<=s.size:=by rw [List.length_take,wl6];omega
 simp only [List.length_cons];omega
end Go.Hp.T
