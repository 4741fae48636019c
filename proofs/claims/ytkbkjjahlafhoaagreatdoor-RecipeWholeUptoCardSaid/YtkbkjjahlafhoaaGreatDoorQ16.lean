/- The proof, part Q16: Ti, Ic, Im. -/
import Derived.Test.YtkbkjjahlafhoaaGreatDoorQ3
import Derived.Test.YtkbkjjahlafhoaaGreatDoorQ15
import Derived.Test.YtkbkjjahlafhoaaGreatDoorChecked
import Derived.Laws.Strings
namespace Go.Slot.T
open Go Go.RowKit Go.Slot Go.Hp
open Go.Proofs.Tryz (prog)
variable {k:TI->OR}
theorem w1:zj5 prog 1 k=k ⟨1,8,[Cell.raw Value.nilFunc],Sh.cell⟩:=xcz (by kernel_rfl)
theorem m1:mkTI prog 1=some ⟨1,8,[Cell.raw Value.nilFunc],Sh.cell⟩:=by kernel_rfl
theorem z1:zxg prog 1=some (SV.one (HC.dat (Cell.raw Value.nilFunc))):=by kernel_rfl
theorem w2:zj5 prog 2 k=k ⟨1,8,[Cell.raw (Value.int IntKind.i64 0)],Sh.int IntKind.i64⟩:=xcz (by kernel_rfl)
theorem m2:mkTI prog 2=some ⟨1,8,[Cell.raw (Value.int IntKind.i64 0)],Sh.int IntKind.i64⟩:=by kernel_rfl
theorem u2:prog.underlying 2=some (TypeDesc.int IntKind.i64):=by kernel_rfl
theorem z2:zxg prog 2=some (SV.one (HC.dat (Cell.raw (Value.int IntKind.i64 0)))):=by kernel_rfl
theorem w3:zj5 prog 3 k=k ⟨1,8,[Cell.raw (Value.int IntKind.i64 0)],Sh.int IntKind.i64⟩:=xcz (by kernel_rfl)
theorem m3:mkTI prog 3=some ⟨1,8,[Cell.raw (Value.int IntKind.i64 0)],Sh.int IntKind.i64⟩:=by kernel_rfl
theorem u3:prog.underlying 3=some (TypeDesc.int IntKind.i64):=by kernel_rfl
theorem z3:zxg prog 3=some (SV.one (HC.dat (Cell.raw (Value.int IntKind.i64 0)))):=by kernel_rfl
theorem w4:zj5 prog 4 k=k ⟨1,1,[Cell.raw (Value.bool false)],Sh.bool⟩:=xcz (by kernel_rfl)
theorem m4:mkTI prog 4=some ⟨1,1,[Cell.raw (Value.bool false)],Sh.bool⟩:=by kernel_rfl
theorem z4:zxg prog 4=some (SV.one (HC.dat (Cell.raw (Value.bool false)))):=by kernel_rfl
theorem w5:zj5 prog 5 k=k ⟨1,1,[Cell.raw (Value.int IntKind.u8 0)],Sh.int IntKind.u8⟩:=xcz (by kernel_rfl)
theorem m5:mkTI prog 5=some ⟨1,1,[Cell.raw (Value.int IntKind.u8 0)],Sh.int IntKind.u8⟩:=by kernel_rfl
theorem u5:prog.underlying 5=some (TypeDesc.int IntKind.u8):=by kernel_rfl
theorem w9:zj5 prog 9 k=k ⟨1,16,[Cell.raw (Value.string ⟨⟨[]⟩⟩)],Sh.string⟩:=xcz (by kernel_rfl)
theorem m9:mkTI prog 9=some ⟨1,16,[Cell.raw (Value.string ⟨⟨[]⟩⟩)],Sh.string⟩:=by kernel_rfl
theorem u9:prog.underlying 9=some TypeDesc.string:=by kernel_rfl
theorem z9:zxg prog 9=some (SV.one (HC.dat (Cell.raw (Value.string ⟨⟨[]⟩⟩)))):=by kernel_rfl
theorem w22:zj5 prog 22 k=k ⟨1,24,[Cell.zc],Sh.slice 172 6 72 none⟩:=xcz (by kernel_rfl)
theorem m22:mkTI prog 22=some ⟨1,24,[Cell.zc],Sh.slice 172 6 72 none⟩:=by kernel_rfl
theorem w23:zj5 prog 23 k=k ⟨1,24,[Cell.zc],Sh.slice 64 3 48 none⟩:=xcz (by kernel_rfl)
theorem m23:mkTI prog 23=some ⟨1,24,[Cell.zc],Sh.slice 64 3 48 none⟩:=by kernel_rfl
theorem w24:zj5 prog 24 k=k ⟨1,24,[Cell.zc],Sh.slice 122 3 56 none⟩:=xcz (by kernel_rfl)
theorem m24:mkTI prog 24=some ⟨1,24,[Cell.zc],Sh.slice 122 3 56 none⟩:=by kernel_rfl
theorem w25:zj5 prog 25 k=k ⟨1,24,[Cell.zc],Sh.slice 129 7 112 none⟩:=xcz (by kernel_rfl)
theorem m25:mkTI prog 25=some ⟨1,24,[Cell.zc],Sh.slice 129 7 112 none⟩:=by kernel_rfl
theorem w26:zj5 prog 26 k=k ⟨1,24,[Cell.zc],Sh.slice 131 7 104 none⟩:=xcz (by kernel_rfl)
theorem m26:mkTI prog 26=some ⟨1,24,[Cell.zc],Sh.slice 131 7 104 none⟩:=by kernel_rfl
theorem w27:zj5 prog 27 k=k ⟨1,24,[Cell.zc],Sh.slice 175 3 40 none⟩:=xcz (by kernel_rfl)
theorem m27:mkTI prog 27=some ⟨1,24,[Cell.zc],Sh.slice 175 3 40 none⟩:=by kernel_rfl
theorem w28:zj5 prog 28 k=k ⟨1,24,[Cell.zc],Sh.slice 177 3 40 none⟩:=xcz (by kernel_rfl)
theorem m28:mkTI prog 28=some ⟨1,24,[Cell.zc],Sh.slice 177 3 40 none⟩:=by kernel_rfl
theorem w29:zj5 prog 29 k=k ⟨1,24,[Cell.zc],Sh.slice 67 2 40 none⟩:=xcz (by kernel_rfl)
theorem m29:mkTI prog 29=some ⟨1,24,[Cell.zc],Sh.slice 67 2 40 none⟩:=by kernel_rfl
theorem m31:mkTI prog 31=some ⟨9,208,[Cell.raw (Value.string ⟨⟨[]⟩⟩),Cell.zc,Cell.zc,Cell.zc,Cell.zc,Cell.zc,Cell.zc,Cell.zc,Cell.zc],Sh.struct [(0,1,9),(1,1,22),(2,1,23),(3,1,24),(4,1,25),(5,1,26),(6,1,27),(7,1,28),(8,1,29)]⟩:=by kernel_rfl
theorem w32:zj5 prog 32 k=k ⟨1,24,[Cell.zc],Sh.slice 80 8 128 none⟩:=xcz (by kernel_rfl)
theorem m32:mkTI prog 32=some ⟨1,24,[Cell.zc],Sh.slice 80 8 128 none⟩:=by kernel_rfl
theorem w33:zj5 prog 33 k=k ⟨1,24,[Cell.zc],Sh.slice 51 4 64 none⟩:=xcz (by kernel_rfl)
theorem m33:mkTI prog 33=some ⟨1,24,[Cell.zc],Sh.slice 51 4 64 none⟩:=by kernel_rfl
theorem z33:zxg prog 33=some (SV.one (HC.dat Cell.zc)):=by kernel_rfl
theorem w37:zj5 prog 37 k=k ⟨1,24,[Cell.zc],Sh.slice 60 3 24 none⟩:=xcz (by kernel_rfl)
theorem m37:mkTI prog 37=some ⟨1,24,[Cell.zc],Sh.slice 60 3 24 none⟩:=by kernel_rfl
theorem w38:zj5 prog 38 k=k ⟨1,24,[Cell.zc],Sh.slice 62 4 40 none⟩:=xcz (by kernel_rfl)
theorem m38:mkTI prog 38=some ⟨1,24,[Cell.zc],Sh.slice 62 4 40 none⟩:=by kernel_rfl
theorem w39:zj5 prog 39 k=k ⟨1,24,[Cell.zc],Sh.slice 33 1 24 none⟩:=xcz (by kernel_rfl)
theorem m39:mkTI prog 39=some ⟨1,24,[Cell.zc],Sh.slice 33 1 24 none⟩:=by kernel_rfl
theorem m41:mkTI prog 41=some ⟨3,72,[Cell.zc,Cell.zc,Cell.zc],Sh.struct [(0,1,37),(1,1,38),(2,1,39)]⟩:=by kernel_rfl
theorem m42:mkTI prog 42=some ⟨1,8,[Cell.raw (Value.int IntKind.i64 0)],Sh.int IntKind.i64⟩:=by kernel_rfl
theorem w47:zj5 prog 47 k=k ⟨1,24,[Cell.zc],Sh.slice 3 1 8 (some IntKind.i64)⟩:=xcz (by kernel_rfl)
theorem m47:mkTI prog 47=some ⟨1,24,[Cell.zc],Sh.slice 3 1 8 (some IntKind.i64)⟩:=by kernel_rfl
theorem m49:mkTI prog 49=some ⟨2,32,[Cell.raw (Value.int IntKind.i64 0),Cell.zc],Sh.struct [(0,1,3),(1,1,47)]⟩:=by kernel_rfl
theorem w51:zj5 prog 51 k=k ⟨4,64,[Cell.raw (Value.int IntKind.i64 0),Cell.zc,Cell.raw (Value.int IntKind.i64 0),Cell.zc],Sh.struct [(0,2,49),(2,2,49)]⟩:=xcz (by kernel_rfl)
theorem m51:mkTI prog 51=some ⟨4,64,[Cell.raw (Value.int IntKind.i64 0),Cell.zc,Cell.raw (Value.int IntKind.i64 0),Cell.zc],Sh.struct [(0,2,49),(2,2,49)]⟩:=by kernel_rfl
theorem m60:mkTI prog 60=some ⟨3,24,[Cell.raw (Value.int IntKind.i64 0),Cell.raw (Value.int IntKind.i64 0),Cell.raw (Value.int IntKind.i64 0)],Sh.struct [(0,1,3),(1,1,3),(2,1,3)]⟩:=by kernel_rfl
theorem m62:mkTI prog 62=some ⟨4,40,[Cell.raw (Value.int IntKind.i64 0),Cell.raw (Value.int IntKind.i64 0),Cell.raw (Value.int IntKind.i64 0),Cell.raw (Value.string ⟨⟨[]⟩⟩)],Sh.struct [(0,1,3),(1,1,3),(2,1,3),(3,1,9)]⟩:=by kernel_rfl
theorem m64:mkTI prog 64=some ⟨3,48,[Cell.raw (Value.string ⟨⟨[]⟩⟩),Cell.raw (Value.string ⟨⟨[]⟩⟩),Cell.raw (Value.string ⟨⟨[]⟩⟩)],Sh.struct [(0,1,9),(1,1,9),(2,1,9)]⟩:=by kernel_rfl
theorem w65:zj5 prog 65 k=k ⟨1,24,[Cell.zc],Sh.slice 70 6 104 none⟩:=xcz (by kernel_rfl)
theorem m65:mkTI prog 65=some ⟨1,24,[Cell.zc],Sh.slice 70 6 104 none⟩:=by kernel_rfl
theorem m67:mkTI prog 67=some ⟨2,40,[Cell.raw (Value.string ⟨⟨[]⟩⟩),Cell.zc],Sh.struct [(0,1,9),(1,1,65)]⟩:=by kernel_rfl
theorem w68:zj5 prog 68 k=k ⟨1,24,[Cell.zc],Sh.slice 9 1 16 none⟩:=xcz (by kernel_rfl)
theorem m68:mkTI prog 68=some ⟨1,24,[Cell.zc],Sh.slice 9 1 16 none⟩:=by kernel_rfl
theorem m70:mkTI prog 70=some ⟨6,104,[Cell.raw (Value.int IntKind.i64 0),Cell.zc,Cell.zc,Cell.raw (Value.string ⟨⟨[]⟩⟩),Cell.zc,Cell.raw (Value.int IntKind.i64 0)],Sh.struct [(0,1,3),(1,1,68),(2,1,68),(3,1,9),(4,1,68),(5,1,3)]⟩:=by kernel_rfl
theorem m80:mkTI prog 80=some ⟨8,128,[Cell.raw (Value.int IntKind.i64 0),Cell.zc,Cell.raw (Value.int IntKind.i64 0),Cell.zc,Cell.raw (Value.int IntKind.i64 0),Cell.zc,Cell.raw (Value.int IntKind.i64 0),Cell.zc],Sh.struct [(0,4,51),(4,4,51)]⟩:=by kernel_rfl
theorem m92:mkTI prog 92=some ⟨1,8,[Cell.raw (Value.map none)],Sh.map 9 33⟩:=by kernel_rfl
theorem m94:mkTI prog 94=some ⟨14,312,[Cell.raw (Value.string ⟨⟨[]⟩⟩),Cell.zc,Cell.zc,Cell.zc,Cell.zc,Cell.zc,Cell.zc,Cell.zc,Cell.zc,Cell.zc,Cell.raw (Value.map none),Cell.zc,Cell.zc,Cell.zc],Sh.struct [(0,9,31),(9,1,32),(10,1,92),(11,3,41)]⟩:=by kernel_rfl
theorem m109:mkTI prog 109=some ⟨1,8,[Cell.raw (Value.map none)],Sh.map 9 4⟩:=by kernel_rfl
theorem m112:mkTI prog 112=some ⟨2,16,[Cell.raw (Value.map none),Cell.raw (Value.bool false)],Sh.struct [(0,1,109),(1,1,4)]⟩:=by kernel_rfl
theorem w120:zj5 prog 120 k=k ⟨1,24,[Cell.zc],Sh.slice 239 2 16 none⟩:=xcz (by kernel_rfl)
theorem m120:mkTI prog 120=some ⟨1,24,[Cell.zc],Sh.slice 239 2 16 none⟩:=by kernel_rfl
theorem m122:mkTI prog 122=some ⟨3,56,[Cell.raw (Value.string ⟨⟨[]⟩⟩),Cell.raw (Value.string ⟨⟨[]⟩⟩),Cell.zc],Sh.struct [(0,1,9),(1,1,9),(2,1,120)]⟩:=by kernel_rfl
theorem w124:zj5 prog 124 k=k ⟨1,24,[Cell.zc],Sh.slice 181 2 32 none⟩:=xcz (by kernel_rfl)
theorem m124:mkTI prog 124=some ⟨1,24,[Cell.zc],Sh.slice 181 2 32 none⟩:=by kernel_rfl
theorem w125:zj5 prog 125 k=k ⟨1,24,[Cell.zc],Sh.slice 127 5 72 none⟩:=xcz (by kernel_rfl)
theorem m125:mkTI prog 125=some ⟨1,24,[Cell.zc],Sh.slice 127 5 72 none⟩:=by kernel_rfl
theorem m127:mkTI prog 127=some ⟨5,72,[Cell.raw (Value.int IntKind.i64 0),Cell.raw (Value.int IntKind.i64 0),Cell.raw (Value.string ⟨⟨[]⟩⟩),Cell.raw (Value.string ⟨⟨[]⟩⟩),Cell.zc],Sh.struct [(0,1,3),(1,1,3),(2,1,9),(3,1,9),(4,1,125)]⟩:=by kernel_rfl
theorem m129:mkTI prog 129=some ⟨7,112,[Cell.raw (Value.string ⟨⟨[]⟩⟩),Cell.zc,Cell.raw (Value.int IntKind.i64 0),Cell.raw (Value.int IntKind.i64 0),Cell.raw (Value.string ⟨⟨[]⟩⟩),Cell.raw (Value.string ⟨⟨[]⟩⟩),Cell.zc],Sh.struct [(0,1,9),(1,1,124),(2,5,127)]⟩:=by kernel_rfl
theorem m131:mkTI prog 131=some ⟨7,104,[Cell.raw (Value.string ⟨⟨[]⟩⟩),Cell.raw (Value.string ⟨⟨[]⟩⟩),Cell.raw (Value.int IntKind.i64 0),Cell.raw (Value.int IntKind.i64 0),Cell.raw (Value.string ⟨⟨[]⟩⟩),Cell.raw (Value.string ⟨⟨[]⟩⟩),Cell.zc],Sh.struct [(0,1,9),(1,1,9),(2,5,127)]⟩:=by kernel_rfl
theorem m142:mkTI prog 142=some ⟨1,8,[Cell.raw (Value.map none)],Sh.map 9 9⟩:=by kernel_rfl
theorem m143:mkTI prog 143=some ⟨1,8,[Cell.raw (Value.map none)],Sh.map 154 4⟩:=by kernel_rfl
theorem m145:mkTI prog 145=some ⟨3,24,[Cell.raw (Value.map none),Cell.raw (Value.map none),Cell.raw (Value.map none)],Sh.struct [(0,1,142),(1,1,142),(2,1,143)]⟩:=by kernel_rfl
theorem m147:mkTI prog 147=some ⟨1,8,[Cell.raw (Value.map none)],Sh.map 154 3⟩:=by kernel_rfl
theorem m148:mkTI prog 148=some ⟨1,8,[Cell.raw (Value.map none)],Sh.map 154 3⟩:=by kernel_rfl
theorem w151:zj5 prog 151 k=k ⟨1,24,[Cell.zc],Sh.slice 154 2 24 none⟩:=xcz (by kernel_rfl)
theorem m151:mkTI prog 151=some ⟨1,24,[Cell.zc],Sh.slice 154 2 24 none⟩:=by kernel_rfl
theorem m154:mkTI prog 154=some ⟨2,24,[Cell.raw (Value.int IntKind.i64 0),Cell.raw (Value.string ⟨⟨[]⟩⟩)],Sh.struct [(0,1,3),(1,1,9)]⟩:=by kernel_rfl
theorem m172:mkTI prog 172=some ⟨6,72,[Cell.raw (Value.string ⟨⟨[]⟩⟩),Cell.raw (Value.string ⟨⟨[]⟩⟩),Cell.raw (Value.int IntKind.i64 0),Cell.raw (Value.int IntKind.i64 0),Cell.raw (Value.string ⟨⟨[]⟩⟩),Cell.raw (Value.int IntKind.i64 0)],Sh.struct [(0,1,9),(1,1,9),(2,1,3),(3,1,3),(4,1,9),(5,1,3)]⟩:=by kernel_rfl
theorem m175:mkTI prog 175=some ⟨3,40,[Cell.raw (Value.string ⟨⟨[]⟩⟩),Cell.raw (Value.string ⟨⟨[]⟩⟩),Cell.raw (Value.int IntKind.i64 0)],Sh.struct [(0,1,9),(1,1,9),(2,1,3)]⟩:=by kernel_rfl
theorem m177:mkTI prog 177=some ⟨3,40,[Cell.raw (Value.string ⟨⟨[]⟩⟩),Cell.raw (Value.string ⟨⟨[]⟩⟩),Cell.raw (Value.int IntKind.i64 0)],Sh.struct [(0,1,9),(1,1,9),(2,1,3)]⟩:=by kernel_rfl
theorem m181:mkTI prog 181=some ⟨2,32,[Cell.raw (Value.string ⟨⟨[]⟩⟩),Cell.raw (Value.string ⟨⟨[]⟩⟩)],Sh.struct [(0,1,9),(1,1,9)]⟩:=by kernel_rfl
theorem m185:mkTI prog 185=some ⟨2,16,[Cell.raw (Value.int IntKind.i64 0),Cell.raw (Value.int IntKind.i64 0)],Sh.array 2 3 1⟩:=by kernel_rfl
theorem m187:mkTI prog 187=some ⟨8,56,[Cell.raw (Value.string ⟨⟨[]⟩⟩),Cell.raw (Value.int IntKind.i64 0),Cell.raw (Value.int IntKind.i64 0),Cell.raw (Value.int IntKind.i64 0),Cell.raw (Value.int IntKind.i64 0),Cell.raw (Value.bool false),Cell.raw (Value.bool false),Cell.raw (Value.bool false)],Sh.struct [(0,1,9),(1,2,185),(3,2,185),(5,1,4),(6,1,4),(7,1,4)]⟩:=by kernel_rfl
theorem m188:mkTI prog 188=some ⟨72,504,[Cell.raw (Value.string ⟨⟨[]⟩⟩),Cell.raw (Value.int IntKind.i64 0),Cell.raw (Value.int IntKind.i64 0),Cell.raw (Value.int IntKind.i64 0),Cell.raw (Value.int IntKind.i64 0),Cell.raw (Value.bool false),Cell.raw (Value.bool false),Cell.raw (Value.bool false),Cell.raw (Value.string ⟨⟨[]⟩⟩),Cell.raw (Value.int IntKind.i64 0),Cell.raw (Value.int IntKind.i64 0),Cell.raw (Value.int IntKind.i64 0),Cell.raw (Value.int IntKind.i64 0),Cell.raw (Value.bool false),Cell.raw (Value.bool false),Cell.raw (Value.bool false),Cell.raw (Value.string ⟨⟨[]⟩⟩),Cell.raw (Value.int IntKind.i64 0),Cell.raw (Value.int IntKind.i64 0),Cell.raw (Value.int IntKind.i64 0),Cell.raw (Value.int IntKind.i64 0),Cell.raw (Value.bool false),Cell.raw (Value.bool false),Cell.raw (Value.bool false),Cell.raw (Value.string ⟨⟨[]⟩⟩),Cell.raw (Value.int IntKind.i64 0),Cell.raw (Value.int IntKind.i64 0),Cell.raw (Value.int IntKind.i64 0),Cell.raw (Value.int IntKind.i64 0),Cell.raw (Value.bool false),Cell.raw (Value.bool false),Cell.raw (Value.bool false),Cell.raw (Value.string ⟨⟨[]⟩⟩),Cell.raw (Value.int IntKind.i64 0),Cell.raw (Value.int IntKind.i64 0),Cell.raw (Value.int IntKind.i64 0),Cell.raw (Value.int IntKind.i64 0),Cell.raw (Value.bool false),Cell.raw (Value.bool false),Cell.raw (Value.bool false),Cell.raw (Value.string ⟨⟨[]⟩⟩),Cell.raw (Value.int IntKind.i64 0),Cell.raw (Value.int IntKind.i64 0),Cell.raw (Value.int IntKind.i64 0),Cell.raw (Value.int IntKind.i64 0),Cell.raw (Value.bool false),Cell.raw (Value.bool false),Cell.raw (Value.bool false),Cell.raw (Value.string ⟨⟨[]⟩⟩),Cell.raw (Value.int IntKind.i64 0),Cell.raw (Value.int IntKind.i64 0),Cell.raw (Value.int IntKind.i64 0),Cell.raw (Value.int IntKind.i64 0),Cell.raw (Value.bool false),Cell.raw (Value.bool false),Cell.raw (Value.bool false),Cell.raw (Value.string ⟨⟨[]⟩⟩),Cell.raw (Value.int IntKind.i64 0),Cell.raw (Value.int IntKind.i64 0),Cell.raw (Value.int IntKind.i64 0),Cell.raw (Value.int IntKind.i64 0),Cell.raw (Value.bool false),Cell.raw (Value.bool false),Cell.raw (Value.bool false),Cell.raw (Value.string ⟨⟨[]⟩⟩),Cell.raw (Value.int IntKind.i64 0),Cell.raw (Value.int IntKind.i64 0),Cell.raw (Value.int IntKind.i64 0),Cell.raw (Value.int IntKind.i64 0),Cell.raw (Value.bool false),Cell.raw (Value.bool false),Cell.raw (Value.bool false)],Sh.array 9 187 8⟩:=by kernel_rfl
theorem w191:zj5 prog 191 k=k ⟨1,24,[Cell.zc],Sh.slice 200 4 40 none⟩:=xcz (by kernel_rfl)
theorem m191:mkTI prog 191=some ⟨1,24,[Cell.zc],Sh.slice 200 4 40 none⟩:=by kernel_rfl
theorem m195:mkTI prog 195=some ⟨2,16,[Cell.raw (Value.int IntKind.i64 0),Cell.raw (Value.int IntKind.i64 0)],Sh.struct [(0,1,3),(1,1,42)]⟩:=by kernel_rfl
theorem m200:mkTI prog 200=some ⟨4,40,[Cell.raw (Value.int IntKind.i64 0),Cell.raw (Value.string ⟨⟨[]⟩⟩),Cell.raw (Value.int IntKind.i64 0),Cell.raw (Value.int IntKind.i64 0)],Sh.struct [(0,1,3),(1,1,9),(2,1,3),(3,1,3)]⟩:=by kernel_rfl
theorem m202:mkTI prog 202=some ⟨2,32,[Cell.zc,Cell.raw (Value.int IntKind.i64 0)],Sh.struct [(0,1,191),(1,1,3)]⟩:=by kernel_rfl
theorem m220:mkTI prog 220=some ⟨1,8,[Cell.raw Value.nilFunc],Sh.cell⟩:=by kernel_rfl
theorem w224:zj5 prog 224 k=k ⟨1,8,[Cell.raw (Value.int IntKind.u64 0)],Sh.int IntKind.u64⟩:=xcz (by kernel_rfl)
theorem u224:prog.underlying 224=some (TypeDesc.int IntKind.u64):=by kernel_rfl
theorem m233:mkTI prog 233=some ⟨6,48,[Cell.raw (Value.int IntKind.i64 0),Cell.raw (Value.int IntKind.i64 0),Cell.raw (Value.int IntKind.i64 0),Cell.raw (Value.int IntKind.i64 0),Cell.raw (Value.int IntKind.i64 0),Cell.raw (Value.int IntKind.i64 0)],Sh.array 6 3 1⟩:=by kernel_rfl
theorem m235:mkTI prog 235=some ⟨10,112,[Cell.raw (Value.int IntKind.i64 0),Cell.raw (Value.int IntKind.i64 0),Cell.raw (Value.int IntKind.i64 0),Cell.raw (Value.int IntKind.i64 0),Cell.raw (Value.int IntKind.i64 0),Cell.raw (Value.int IntKind.i64 0),Cell.raw (Value.int IntKind.i64 0),Cell.zc,Cell.raw (Value.int IntKind.i64 0),Cell.zc],Sh.struct [(0,6,233),(6,4,51)]⟩:=by kernel_rfl
theorem m239:mkTI prog 239=some ⟨2,16,[Cell.raw (Value.int IntKind.i64 0),Cell.raw (Value.int IntKind.i64 0)],Sh.struct [(0,1,3),(1,1,3)]⟩:=by kernel_rfl
theorem w252:zj5 prog 252 k=k ⟨1,24,[Cell.zc],Sh.slice 256 2 24 none⟩:=xcz (by kernel_rfl)
theorem m252:mkTI prog 252=some ⟨1,24,[Cell.zc],Sh.slice 256 2 24 none⟩:=by kernel_rfl
theorem m256:mkTI prog 256=some ⟨2,24,[Cell.raw (Value.string ⟨⟨[]⟩⟩),Cell.raw (Value.int IntKind.i64 0)],Sh.struct [(0,1,9),(1,1,3)]⟩:=by kernel_rfl
theorem m265:mkTI prog 265=some ⟨13,13,[Cell.raw (Value.int IntKind.u8 0),Cell.raw (Value.int IntKind.u8 0),Cell.raw (Value.int IntKind.u8 0),Cell.raw (Value.int IntKind.u8 0),Cell.raw (Value.int IntKind.u8 0),Cell.raw (Value.int IntKind.u8 0),Cell.raw (Value.int IntKind.u8 0),Cell.raw (Value.int IntKind.u8 0),Cell.raw (Value.int IntKind.u8 0),Cell.raw (Value.int IntKind.u8 0),Cell.raw (Value.int IntKind.u8 0),Cell.raw (Value.int IntKind.u8 0),Cell.raw (Value.int IntKind.u8 0)],Sh.array 13 5 1⟩:=by kernel_rfl
theorem m285:mkTI prog 285=some ⟨1,24,[Cell.zc],Sh.slice 5 1 1 (some IntKind.u8)⟩:=by kernel_rfl
theorem u285:prog.underlying 285=some (TypeDesc.slice 5):=by kernel_rfl
theorem m293:mkTI prog 293=some ⟨3,40,[Cell.zc,Cell.raw (Value.int IntKind.i64 0),Cell.raw (Value.bool false)],Sh.struct [(0,1,191),(1,1,3),(2,1,4)]⟩:=by kernel_rfl
theorem m297:mkTI prog 297=some ⟨1,8,[Cell.raw (Value.pointer none)],Sh.cell⟩:=by kernel_rfl
theorem vg7:w3s prog 297=some 299:=by kernel_rfl
theorem u297:prog.underlying 297=some (TypeDesc.pointer 299):=by kernel_rfl
theorem m299:mkTI prog 299=some ⟨2,32,[Cell.raw (Value.pointer none),Cell.zc],Sh.struct [(0,1,297),(1,1,285)]⟩:=by kernel_rfl
theorem wnt:w3s prog 305=some 5:=by kernel_rfl
theorem u309:prog.underlying 309=some TypeDesc.unsafePointer:=by kernel_rfl
theorem v4v:prog.info? 299=some (yd5 prog 299):=by kernel_rfl
theorem w6a:((yd5 prog 299).size != 0)=true:=by kernel_rfl
theorem e233:ygu prog 233=true:=by kernel_rfl
theorem zoh:(List.range 256).all (fun n=>n==233||!ygu prog n)=true:=by kernel_rfl
attribute [go_sem ↓] w1 w2 w3 w4 w5 w9 w22 w23 w24 w25 w26 w27 w28 w29 w32 w33 w37 w38 w39 w47 w51 w65 w68 w120 w124 w125 w151 w191 w224 w252
attribute [go_sem] m1 z1 m2 u2 z2 m3 u3 z3 m4 z4 m5 u5 m9 u9 z9 m22 m23 m24 m25 m26 m27 m28 m29 m31 m32 m33 z33 m37 m38 m39 m41 m42 m47 m49 m51 m60 m62 m64 m65 m67 m68 m70 m80 m92 m94 m109 m112 m120 m122 m124 m125 m127 m129 m131 m142 m143 m145 m147 m148 m151 m154 m172 m175 m177 m181 m185 m187 m188 m191 m195 m200 m202 m220 u224 m233 m235 m239 m252 m256 m265 m285 u285 m293 m297 vg7 u297 m299 wnt u309 v4v w6a e233
theorem eAll (n:Nat) (h:n<256) (h233:n≠233):ygu prog n=false:=by
 have:=List.all_eq_true.1 zoh n (List.mem_range.2 h)
 simpa [h233] using this
theorem mixed:prog.follows .mixedOrders=true:=by kernel_rfl
attribute [go_sem] eAll
theorem ven {k:Bool->Prop}:yk9 prog k=k true:=propext ⟨fun h=>h.2,fun h=>⟨mixed,h⟩⟩
attribute [go_sem] ven
end Go.Slot.T
namespace Go.Hp
open Go Go.RowKit Go.Slot
variable {P:Program} {Γ:List (Nat×List Cell)} {e:List SB} {G:List (Nat×List GhH)}
variable {X Y:Bool->Prop} {c:Bool} {q a b:Prop} {x y:AV} {i j:Nat} {J J':List SV} {η η' ηs ηs':List SB} {f:FuncId} {res:SV}
theorem vpz {p:Prop} [Decidable p] (hx:p->decide p=true->X true) (hy:¬p->decide p=false->Y true):vai (decide p) true X Y:=⟨fun h=>hx (of_decide_eq_true h) h,fun h=>hy (of_decide_eq_false h) h⟩
theorem xaf {p:Prop} [Decidable p] (hx:¬p->decide p=false->X true) (hy:p->decide p=true->Y true):vai (decide p) false X Y:=⟨fun h=>hx (of_decide_eq_false h) h,fun h=>hy (of_decide_eq_true h) h⟩
theorem xqc (hx:c=true->X true) (hy:c=false->Y true):vai c true X Y:=⟨hx,hy⟩
theorem zlt (hx:c=false->X true) (hy:c=true->Y true):vai c false X Y:=⟨hx,hy⟩
theorem y8g {p:Prop} [Decidable p] (hx:p->decide p=true->X true) (hy:¬p->decide p=false->Y true):vm9 (decide p) X Y:=⟨fun h=>hx (of_decide_eq_true h) h,fun h=>hy (of_decide_eq_false h) h⟩
theorem yie (hx:c=true->X true) (hy:c=false->Y true):vm9 c X Y:=⟨hx,hy⟩
theorem xsm (hx:c=false->X true) (hy:c=true->Y true):vai (!c) true X Y:=⟨fun h=>hx (by simpa using h),fun h=>hy (by simpa using h)⟩
theorem ypc (hx:c=true->X true) (hy:c=false->Y true):vai (!c) false X Y:=⟨fun h=>hx (by simpa using h),fun h=>hy (by simpa using h)⟩
theorem xlx (hx:c=false->X true) (hy:c=true->Y true):vm9 (!c) X Y:=⟨fun h=>hx (by simpa using h),fun h=>hy (by simpa using h)⟩
theorem hg {p:Prop} (k:q) (h:p=q:=by conv=>lhs;simp (maxSteps:=2000000) (disch:=omega) only [go_sem,Nat.reduceAdd,Nat.reduceSub,Nat.reduceMul,Int.reduceToNat,Nat.reduceEqDiff,Nat.reduceBEq,Nat.reduceBneDiff,Nat.reduceLT,Int.reduceEq,Int.reduceLT,Int.reduceLE,Int.reduceNeg,Int.reduceAdd,Int.reduceSub,Int.reduceMul]):p:=Eq.mpr h k
theorem hgS {p:Prop} (k:q) (h:p=q:=by conv=>lhs;simp (maxSteps:=2000000) (disch:=omega) only [go_sem,Nat.reduceAdd,Nat.reduceSub,Nat.reduceMul,Int.reduceToNat,Nat.reduceEqDiff,Nat.reduceBEq,Nat.reduceBneDiff,Nat.reduceLT,Int.reduceEq,Int.reduceLT,Int.reduceLE,Int.reduceNeg,Int.reduceAdd,Int.reduceSub,Int.reduceMul, *]):p:=Eq.mpr h k
theorem hgR {p:Prop} (k:q) (h:p=q:=by conv=>lhs;simp (maxSteps:=2000000) (disch:=omega) only [go_sem,Nat.reduceAdd,Nat.reduceSub,Nat.reduceMul,Int.reduceToNat,Nat.reduceEqDiff,Nat.reduceBEq,Nat.reduceBneDiff,Nat.reduceLT,Int.reduceEq,Int.reduceLT,Int.reduceLE,Int.reduceNeg,Int.reduceAdd,Int.reduceSub,Int.reduceMul,List.replicate]):p:=Eq.mpr h k
theorem hfk {p r:Prop} (k:q) (l:r) (h:q->r->p:=by with_reducible first | exact fun a b=>vpz a b | exact fun a b=>xaf a b | exact fun a b=>xsm a b | exact fun a b=>ypc a b | exact fun a b=>xqc a b | exact fun a b=>zlt a b | exact fun a b=>y8g a b | exact fun a b=>xlx a b | exact fun a b=>yie a b):p:=h k l
theorem hik {ops:List Oper} {acc:List HR} {k:Bool->Prop} (hk:k true) (h:wpu ops acc=true:=by kernel_rfl):wzf ops acc k:=⟨h,hk⟩
theorem svl {a b:List SV} (h:zow a b:=by repeat' first | exact .nil | refine .cons (by first | exact .refl _ | exact .any _) ?_):zow a b:=h
theorem RLe.ofEq (h:x=y):RLe x y:=h▸.one (.refl _)
theorem vq5 {p:Prop} [Decidable p]:(!decide p)=decide (¬p):=by by_cases h:p<;>simp [h]
theorem lfE {p:Prop} (k:p) (h:(x=y)=p:=by conv=>lhs;simp only [Bool.and_true,Bool.true_and,Bool.and_false,Bool.false_and,Bool.or_true,Bool.true_or,Bool.or_false,Bool.false_or,Bool.not_true,Bool.not_false,decide_true,decide_false,not_true_eq_false,not_false_eq_true,vq5,if_true,if_false,Bool.and_self,Bool.or_self,cond_true,cond_false,List.length_map,ne_eq,Int.reduceEq,Int.reduceLT,Int.reduceLE, *]):RLe x y:=RLe.ofEq (h.symm▸k)
theorem lf1 {p:Prop} (ra:a) (k:p) (h:a->(x=y)=p:=by intro z1;conv=>lhs;simp only [Bool.and_true,Bool.true_and,Bool.and_false,Bool.false_and,Bool.or_true,Bool.true_or,Bool.or_false,Bool.false_or,Bool.not_true,Bool.not_false,decide_true,decide_false,not_true_eq_false,not_false_eq_true,vq5,if_true,if_false,Bool.and_self,Bool.or_self,cond_true,cond_false,List.length_map,ne_eq,Int.reduceEq,Int.reduceLT,Int.reduceLE, *]):RLe x y:=RLe.ofEq ((h ra).symm▸k)
theorem lf2 {p:Prop} (ra:a) (rb:b) (k:p) (h:a->b->(x=y)=p:=by intro z1 z2;conv=>lhs;simp only [Bool.and_true,Bool.true_and,Bool.and_false,Bool.false_and,Bool.or_true,Bool.true_or,Bool.or_false,Bool.false_or,Bool.not_true,Bool.not_false,decide_true,decide_false,not_true_eq_false,not_false_eq_true,vq5,if_true,if_false,Bool.and_self,Bool.or_self,cond_true,cond_false,List.length_map,ne_eq,Int.reduceEq,Int.reduceLT,Int.reduceLE, *]):RLe x y:=RLe.ofEq ((h ra rb).symm▸k)
theorem bsE {p:Prop} (k:p) (h:q=p:=by conv=>lhs;simp only [Bool.and_true,Bool.true_and,Bool.and_false,Bool.false_and,Bool.or_true,Bool.true_or,Bool.or_false,Bool.false_or,Bool.not_true,Bool.not_false,decide_true,decide_false,not_true_eq_false,not_false_eq_true,vq5,if_true,if_false,Bool.and_self,Bool.or_self,cond_true,cond_false,List.length_map,ne_eq,Int.reduceEq,Int.reduceLT,Int.reduceLE, *]):q:=h.symm▸k
theorem bs1 {p:Prop} (ra:a) (k:p) (h:a->q=p:=by intro z1;conv=>lhs;simp only [Bool.and_true,Bool.true_and,Bool.and_false,Bool.false_and,Bool.or_true,Bool.true_or,Bool.or_false,Bool.false_or,Bool.not_true,Bool.not_false,decide_true,decide_false,not_true_eq_false,not_false_eq_true,vq5,if_true,if_false,Bool.and_self,Bool.or_self,cond_true,cond_false,List.length_map,ne_eq,Int.reduceEq,Int.reduceLT,Int.reduceLE, *]):q:=(h ra).symm▸k
theorem bs2 {p:Prop} (ra:a) (rb:b) (k:p) (h:a->b->q=p:=by intro z1 z2;conv=>lhs;simp only [Bool.and_true,Bool.true_and,Bool.and_false,Bool.false_and,Bool.or_true,Bool.true_or,Bool.or_false,Bool.false_or,Bool.not_true,Bool.not_false,decide_true,decide_false,not_true_eq_false,not_false_eq_true,vq5,if_true,if_false,Bool.and_self,Bool.or_self,cond_true,cond_false,List.length_map,ne_eq,Int.reduceEq,Int.reduceLT,Int.reduceLE, *]):q:=(h ra rb).symm▸k
theorem hg1 {p:Prop} (ra:a) (k:q) (h:a->p=q:=by intro z1;conv=>lhs;simp (maxSteps:=2000000) (disch:=omega) only [go_sem,Nat.reduceAdd,Nat.reduceSub,Nat.reduceMul,Int.reduceToNat,Nat.reduceEqDiff,Nat.reduceBEq,Nat.reduceBneDiff,Nat.reduceLT,Int.reduceEq,Int.reduceLT,Int.reduceLE,Int.reduceNeg,Int.reduceAdd,Int.reduceSub,Int.reduceMul,z1]):p:=Eq.mpr (h ra) k
theorem hg2 {p:Prop} (ra:a) (rb:b) (k:q) (h:a->b->p=q:=by intro z1 z2;conv=>lhs;simp (maxSteps:=2000000) (disch:=omega) only [go_sem,Nat.reduceAdd,Nat.reduceSub,Nat.reduceMul,Int.reduceToNat,Nat.reduceEqDiff,Nat.reduceBEq,Nat.reduceBneDiff,Nat.reduceLT,Int.reduceEq,Int.reduceLT,Int.reduceLE,Int.reduceNeg,Int.reduceAdd,Int.reduceSub,Int.reduceMul,z1,z2]):p:=Eq.mpr (h ra rb) k
theorem hg3 {c p:Prop} (ra:a) (rb:b) (rc:c) (k:q) (h:a->b->c->p=q:=by intro z1 z2 z3;conv=>lhs;simp (maxSteps:=2000000) (disch:=omega) only [go_sem,Nat.reduceAdd,Nat.reduceSub,Nat.reduceMul,Int.reduceToNat,Nat.reduceEqDiff,Nat.reduceBEq,Nat.reduceBneDiff,Nat.reduceLT,Int.reduceEq,Int.reduceLT,Int.reduceLE,Int.reduceNeg,Int.reduceAdd,Int.reduceSub,Int.reduceMul,z1,z2,z3]):p:=Eq.mpr (h ra rb rc) k
def swL (i j:Nat) (η:List SB):List SB:=(List.range η.length).map fun k=>swSB i j (gB η (sw i j k))
theorem xol {k n:Nat} (hi:i<n) (hj:j<n) (hk:k<n):sw i j k<n:=by unfold sw;split<;>(try split)<;>omega
theorem StH.wku (hi:e.length<=i) (hj:e.length<=j) (hil:i<η.length) (hjl:j<η.length):StH Γ e J η (J.map (swSV i j)) (swL i j η):=by
 refine StH.swap hi hj hil hjl (fun b x hb=>.inl ?_) (by simp [swL]);have hbl:b<η.length:=(List.getElem?_eq_some_iff.1 hb).1;unfold swL;rw [List.getElem?_map,List.getElem?_range (xol hil hjl hbl)];simp only [Option.map_some,xw5];unfold gB;rw [hb];rfl
def wd9 (m:Nat) (J:List SV) (η:List SB):Bool:=(J.all fun x=>(x3b x).all fun b=>Nat.blt b m)&&((η.take m).all fun x=>(ze4 x).all fun b=>Nat.blt b m)
theorem StH.cutB (m:Nat) (hm:e.length<=m) (h:wd9 m J η=true):StH Γ e J η J (η.take m):=by
 unfold wd9 at h;rw [Bool.and_eq_true,List.all_eq_true,List.all_eq_true] at h;refine StH.cut hm (fun i x hx b hb=>?_) (fun i x hi hx=>.inr fun b hb=>?_)
 . have:=h.1 x (List.mem_of_getElem? hx)
   rw [List.all_eq_true] at this;simpa using this b hb
 . have:=h.2 x (List.mem_of_getElem? (by rw [List.getElem?_take_of_lt hi];exact hx))
   rw [List.all_eq_true] at this;simpa using this b hb
theorem StH.back (ks:List Nat) (i j m:Nat) (hi:Nat.ble e.length i=true) (hj:Nat.ble e.length j=true) (hm:Nat.ble e.length m=true) (hil:Nat.blt i η.length=true) (hjl:Nat.blt j η.length=true) (h:wd9 m ((vjn ks 0 J).map (swSV i j)) (swL i j η)=true)
 (hk:StH Γ e ((vjn ks 0 J).map (swSV i j)) ((swL i j η).take m) J' η'):StH Γ e J η J' η':=
 StH.trans (StH.only ks) (StH.trans (StH.wku (by simpa using hi) (by simpa using hj) (by simpa using hil) (by simpa using hjl)) (StH.trans (StH.cutB m (by simpa using hm) h) hk))
theorem StH.same (h:zow J J') (hη:η=η'):StH Γ e J η J' η':=hη▸StH.xof h
theorem StH.done (m:Nat) (hm:Nat.ble e.length m=true) (h:wd9 m J η=true) (hσ:J=J') (hη:η.take m=η'):StH Γ e J η J' η':=
 hσ▸hη▸StH.cutB m (by simpa using hm) h
theorem wlp.of {φ:List Nat} (h:φ.map (fun j=>η[j]?)=ηs.map (fun x=>some (rnSB (atR φ η.length) x))):wlp φ η ηs:=by
 have hl:ηs.length=φ.length:=by
  have:=congrArg List.length h
  simpa using this.symm
 refine ⟨hl,fun i x hx=>?_⟩;have hi:i<ηs.length:=(List.getElem?_eq_some_iff.1 hx).1;refine ⟨φ[i]'(by omega),List.getElem?_eq_getElem _,?_⟩;have h1:=congrArg (fun l=>l[i]?) h;simp only [List.getElem?_map,hx,Option.map_some] at h1;rw [List.getElem?_eq_getElem (by omega)] at h1;simpa using h1
theorem xbh.at (φ:List Nat) {args:List SV} (h:xbh Γ P f ηs args ηs' res) (hn:φ.Nodup) (hb:(φ.all fun j=>Nat.blt j η.length)=true)
 (hp:φ.map (fun j=>η[j]?)=ηs.map (fun x=>some (rnSB (atR φ η.length) x))) (hlen:Nat.ble φ.length ηs'.length=true):xbh Γ P f η (args.map (xbb (atR φ η.length))) (putR φ η ηs') (rnSV (atR φ η.length) res):=
 xbh.frame hn (fun j hj=>by simpa using List.all_eq_true.1 hb j hj) (wlp.of hp) (by simpa using hlen) h
theorem yru (φ:List Nat) {args l:List SV} {K:Bool->List SB->SV->Prop} (h:xbh Γ P f ηs args ηs' res) (hl:args.map (xbb (atR φ η.length))=l) (hn:φ.Nodup) (hb:(φ.all fun j=>Nat.blt j η.length)=true)
 (hp:φ.map (fun j=>η[j]?)=ηs.map (fun x=>some (rnSB (atR φ η.length) x))) (hlen:Nat.ble φ.length ηs'.length=true) (hk:K true (putR φ η ηs') (rnSV (atR φ η.length) res)):vb3 Γ P f η l K:=
 hl▸zue (xbh.at φ h hn hb hp hlen) hk
theorem z8u {a b:ByteArray}:seq a b=decide (a=b):=by
 unfold seq;rw [ByteArray.toList_eq,ByteArray.toList_eq];by_cases h:a=b
 . rw [h];simp
 . rw [decide_eq_false h]
   have:a.data.toList≠b.data.toList:=fun he=>h (ByteArray.ext (Array.toList_inj.1 he))
   simpa using this
theorem zlf {s:ByteArray}:seq s ⟨#[]⟩=decide (s.size=0):=by
 rw [z8u];refine decide_eq_decide.2 ⟨fun h=>by rw [h];rfl,fun h=>ByteArray.ext (Array.eq_empty_of_size_eq_zero h)⟩
theorem w8 {n:Int} (h:0<=n/\n<=255):IntKind.u8.wrap n=n:=by rw [IntKind.wrap_u8];omega
attribute [go_sem] w8
theorem v4a {n:Nat}:((n:Int)-1).toNat=n-1:=by omega
theorem web {n:Nat}:((n:Int)+1).toNat=n+1:=by omega
attribute [go_sem] v4a web
theorem vff {t:Nat}:gt (J.map vw) t=vw (gtS J t):=zqq t
attribute [go_sem] vff xei valB elemAt zlf vq5 List.size_toArray List.length_map List.getD_cons_zero List.getD_cons_succ y72 zvh vat eqOf litH zyg zrj vwd usdH usH zpa z0o wyv yfz eqL putR atR rnSB rnHC xbb rnSV List.zip_cons_cons List.zip_nil_left List.zip_nil_right List.drop_succ_cons swSV vwa swHC swSB sw List.map_nil
end Go.Hp
namespace Go.Hp.T
open Go Go.RowKit Go.Slot Go.Hp
set_option maxRecDepth 10000
theorem toD {Γ:List (Nat×List Cell)} {P:Program} {f:FuncId} {args:List AV} {res:AV} (h:CallsD Γ P f args res):CallsD Γ P f args res:=h
abbrev cI (n:Int):Cell:=.raw (.int .i64 n)
abbrev c8 (n:Int):Cell:=.raw (.int .u8 n)
abbrev cS (s:ByteArray):Cell:=.raw (.string s)
abbrev cB (b:Bool):Cell:=.raw (.bool b)
abbrev fN (f:FuncId):AV:=.one (.raw (.func (.func f) #[] #[]))
def zcd (s:ByteArray):List Int:=(List.range s.size).map (vpd s)
theorem yjp (s:ByteArray):(zcd s).length=s.size:=by simp [zcd]
theorem vdi (s:ByteArray) (i:Nat) (h:i<s.size):(zcd s)[i]? = some (vpd s i):=by simp [zcd,h]
def vuh (p:Int->Bool) (s:ByteArray):Nat:=((zcd s).takeWhile p).length
theorem ybl {α:Type} (p:α->Bool):∀(l:List α) (n:Nat),n<=l.length->(∀ j x,j<n->l[j]? = some x->p x=true)->(n=l.length\/∃ x,l[n]? = some x/\p x=false)->(l.takeWhile p).length=n
 | [],n,hn,_,_=>by simp at hn;simp [hn]
 | a::l,0,_,_,h=>by
  rcases h with h | ⟨x,hx,hp⟩
  . simp at h
  . simp at hx;subst hx;simp [List.takeWhile,hp]
 | a::l,n+1,hn,hj,h=>by
  have ha:p a=true:=hj 0 a (by omega) rfl;rw [List.takeWhile_cons_of_pos ha,List.length_cons,ybl p l n (by simpa using hn) (fun j x h1 h2=>hj (j+1) x (by omega) (by simpa using h2)) ?_]
  rcases h with h | ⟨x,hx,hp⟩
  . exact .inl (by simpa using h)
  . exact .inr ⟨x,by simpa using hx,hp⟩
theorem z4v {p:Int->Bool} {s:ByteArray} {n:Nat} (hn:n<=s.size) (hj:∀ j,j<n->p (vpd s j)=true) (h:n=s.size\/p (vpd s n)=false):vuh p s=n:=by
 refine ybl p _ n (by rw [yjp];exact hn) (fun j x h1 h2=>?_) ?_
 . rw [vdi s j (by omega)] at h2;cases h2;exact hj j h1
 . by_cases e:n=s.size
   . exact .inl (by rw [yjp];exact e)
   . rcases h with h | h
     . exact absurd h e
     . exact .inr ⟨_,vdi s n (by omega),h⟩
theorem yz6 (p:Int->Bool) (s:ByteArray):vuh p s<=s.size:=by
 have:=(List.takeWhile_sublist p (l:=zcd s)).length_le
 rw [yjp] at this;exact this
def wxk (c:Int):Bool:=(decide (97<=c)&&decide (c<=122))||(decide (65<=c)&&decide (c<=90))
def isDigit (c:Int):Bool:=decide (48<=c)&&decide (c<=57)
def y7x (c:Int):Bool:=wxk c||isDigit c||decide (c=95)
def zhf (c:Int):Bool:=decide (32<=c)&&decide (c<=126)
def isName (s:ByteArray):Bool:=decide (¬s.size=0)&&wxk (vpd s 0)&&decide ((s.size:Int)<=20)&&decide ((vuh y7x s:Int)=s.size)
def xld (s:ByteArray):Bool:=!(decide (400<(s.size:Int))||decide (¬(vuh zhf s:Int)=s.size))
def escB (c:Int):List Int:=bif decide (c=34)||decide (c=92) then [92,c] else [c]
def escA (s:ByteArray) (i:Nat):List Int:=34::((zcd s).take i).flatMap escB
def escS (s:ByteArray):ByteArray:=strOfNums (escA s s.size++[34])
theorem xvj {s:ByteArray} {i:Nat} (h:i<s.size):escA s (i+1)=escA s i++escB (vpd s i):=by
 unfold escA
 have:(zcd s).take (i+1)=(zcd s).take i++[vpd s i]:=by
  rw [List.take_add_one,vdi s i h];rfl
 rw [this];simp
theorem zl8 (s:ByteArray) (i:Nat):xrp (vpd s i)=true:=by
 unfold xrp vpd
 have:=((s.data[i]?).getD 0).toNat_lt
 simp;omega
theorem zeo {c:Int} (h:xrp c=true):(escB c).all xrp=true:=by
 unfold escB
 have h':0<=c/\c<256:=by simpa [xrp] using h
 cases decide (c=34)||decide (c=92)<;>simp [xrp,h']
theorem zfg (s:ByteArray) (i:Nat):(escA s i).all xrp=true:=by
 have hb:∀ c∈zcd s,xrp c=true:=fun c hc=>by
  simp only [zcd,List.mem_map] at hc;obtain ⟨j,_,rfl⟩:=hc;exact zl8 s j
 unfold escA;rw [List.all_cons,Bool.and_eq_true];refine ⟨rfl,?_⟩;rw [List.all_flatMap,List.all_eq_true]
 exact fun c hc=>zeo (hb c (List.mem_of_mem_take hc))
theorem yxt (c:Int):(escB c).length<=2:=by unfold escB;cases decide (c=34)||decide (c=92)<;>simp
theorem v42:∀ l:List Int,(l.flatMap escB).length<=2*l.length
 | []=>by simp
 | c::l=>by
  have:=v42 l
  have:=yxt c
  simp only [List.flatMap_cons,List.length_append,List.length_cons];omega
theorem zbo (s:ByteArray) (i:Nat):1<=(escA s i).length/\(escA s i).length<=1+2*s.size:=by
 unfold escA
 have:=v42 ((zcd s).take i)
 have h2:((zcd s).take i).length<=s.size:=by rw [List.length_take,yjp];omega
 simp only [List.length_cons];omega
end Go.Hp.T
