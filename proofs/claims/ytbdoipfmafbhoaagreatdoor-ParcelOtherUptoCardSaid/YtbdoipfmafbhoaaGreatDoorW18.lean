/- The proof, part W18: Ti, Ic, Im, Ie. -/
import Derived.Test.YtbdoipfmafbhoaaGreatDoorW7
import Derived.Test.YtbdoipfmafbhoaaGreatDoorW17
import Derived.Test.YtbdoipfmafbhoaaGreatDoorChecked
import Derived.Laws.Strings
namespace Go.Slot.T
open Go Go.RowKit Go.Slot Go.Hp
open Go.Proofs.Tryz (prog)
theorem m1:mkTI prog 1=some ⟨1,8,[Cell.raw Value.nilFunc],Sh.cell⟩:=by kernel_rfl
attribute [go_sem] m1
theorem z1:vnx prog 1=some (SV.one (HC.dat (Cell.raw Value.nilFunc))):=by kernel_rfl
attribute [go_sem] z1
theorem m2:mkTI prog 2=some ⟨1,8,[Cell.raw (Value.int IntKind.i64 0)],Sh.int IntKind.i64⟩:=by kernel_rfl
attribute [go_sem] m2
theorem u2:prog.underlying 2=some (TypeDesc.int IntKind.i64):=by kernel_rfl
attribute [go_sem] u2
theorem z2:vnx prog 2=some (SV.one (HC.dat (Cell.raw (Value.int IntKind.i64 0)))):=by kernel_rfl
attribute [go_sem] z2
theorem w3 {k:TI->OR}:yrq prog 3 k=k ⟨1,8,[Cell.raw (Value.int IntKind.i64 0)],Sh.int IntKind.i64⟩:=zti (by kernel_rfl)
theorem m3:mkTI prog 3=some ⟨1,8,[Cell.raw (Value.int IntKind.i64 0)],Sh.int IntKind.i64⟩:=by kernel_rfl
attribute [go_sem ↓] w3
attribute [go_sem] m3
theorem u3:prog.underlying 3=some (TypeDesc.int IntKind.i64):=by kernel_rfl
attribute [go_sem] u3
theorem z3:vnx prog 3=some (SV.one (HC.dat (Cell.raw (Value.int IntKind.i64 0)))):=by kernel_rfl
attribute [go_sem] z3
theorem m4:mkTI prog 4=some ⟨1,1,[Cell.raw (Value.bool false)],Sh.bool⟩:=by kernel_rfl
attribute [go_sem] m4
theorem z4:vnx prog 4=some (SV.one (HC.dat (Cell.raw (Value.bool false)))):=by kernel_rfl
attribute [go_sem] z4
theorem w5 {k:TI->OR}:yrq prog 5 k=k ⟨1,1,[Cell.raw (Value.int IntKind.u8 0)],Sh.int IntKind.u8⟩:=zti (by kernel_rfl)
theorem m5:mkTI prog 5=some ⟨1,1,[Cell.raw (Value.int IntKind.u8 0)],Sh.int IntKind.u8⟩:=by kernel_rfl
attribute [go_sem ↓] w5
attribute [go_sem] m5
theorem u5:prog.underlying 5=some (TypeDesc.int IntKind.u8):=by kernel_rfl
attribute [go_sem] u5
theorem w9 {k:TI->OR}:yrq prog 9 k=k ⟨1,16,[Cell.raw (Value.string ⟨⟨[]⟩⟩)],Sh.string⟩:=zti (by kernel_rfl)
theorem m9:mkTI prog 9=some ⟨1,16,[Cell.raw (Value.string ⟨⟨[]⟩⟩)],Sh.string⟩:=by kernel_rfl
attribute [go_sem ↓] w9
attribute [go_sem] m9
theorem u9:prog.underlying 9=some TypeDesc.string:=by kernel_rfl
attribute [go_sem] u9
theorem z9:vnx prog 9=some (SV.one (HC.dat (Cell.raw (Value.string ⟨⟨[]⟩⟩)))):=by kernel_rfl
attribute [go_sem] z9
theorem w22 {k:TI->OR}:yrq prog 22 k=k ⟨1,24,[Cell.zc],Sh.slice 92 6 72 none⟩:=zti (by kernel_rfl)
theorem m22:mkTI prog 22=some ⟨1,24,[Cell.zc],Sh.slice 92 6 72 none⟩:=by kernel_rfl
attribute [go_sem ↓] w22
attribute [go_sem] m22
theorem w23 {k:TI->OR}:yrq prog 23 k=k ⟨1,24,[Cell.zc],Sh.slice 58 3 48 none⟩:=zti (by kernel_rfl)
theorem m23:mkTI prog 23=some ⟨1,24,[Cell.zc],Sh.slice 58 3 48 none⟩:=by kernel_rfl
attribute [go_sem ↓] w23
attribute [go_sem] m23
theorem w24 {k:TI->OR}:yrq prog 24 k=k ⟨1,24,[Cell.zc],Sh.slice 65 3 56 none⟩:=zti (by kernel_rfl)
theorem m24:mkTI prog 24=some ⟨1,24,[Cell.zc],Sh.slice 65 3 56 none⟩:=by kernel_rfl
attribute [go_sem ↓] w24
attribute [go_sem] m24
theorem w25 {k:TI->OR}:yrq prog 25 k=k ⟨1,24,[Cell.zc],Sh.slice 71 7 112 none⟩:=zti (by kernel_rfl)
theorem m25:mkTI prog 25=some ⟨1,24,[Cell.zc],Sh.slice 71 7 112 none⟩:=by kernel_rfl
attribute [go_sem ↓] w25
attribute [go_sem] m25
theorem w26 {k:TI->OR}:yrq prog 26 k=k ⟨1,24,[Cell.zc],Sh.slice 76 7 104 none⟩:=zti (by kernel_rfl)
theorem m26:mkTI prog 26=some ⟨1,24,[Cell.zc],Sh.slice 76 7 104 none⟩:=by kernel_rfl
attribute [go_sem ↓] w26
attribute [go_sem] m26
theorem w27 {k:TI->OR}:yrq prog 27 k=k ⟨1,24,[Cell.zc],Sh.slice 94 3 40 none⟩:=zti (by kernel_rfl)
theorem m27:mkTI prog 27=some ⟨1,24,[Cell.zc],Sh.slice 94 3 40 none⟩:=by kernel_rfl
attribute [go_sem ↓] w27
attribute [go_sem] m27
theorem w28 {k:TI->OR}:yrq prog 28 k=k ⟨1,24,[Cell.zc],Sh.slice 100 3 40 none⟩:=zti (by kernel_rfl)
theorem m28:mkTI prog 28=some ⟨1,24,[Cell.zc],Sh.slice 100 3 40 none⟩:=by kernel_rfl
attribute [go_sem ↓] w28
attribute [go_sem] m28
theorem w29 {k:TI->OR}:yrq prog 29 k=k ⟨1,24,[Cell.zc],Sh.slice 43 2 40 none⟩:=zti (by kernel_rfl)
theorem m29:mkTI prog 29=some ⟨1,24,[Cell.zc],Sh.slice 43 2 40 none⟩:=by kernel_rfl
attribute [go_sem ↓] w29
attribute [go_sem] m29
theorem m31:mkTI prog 31=some ⟨9,208,[Cell.raw (Value.string ⟨⟨[]⟩⟩),Cell.zc,Cell.zc,Cell.zc,Cell.zc,Cell.zc,Cell.zc,Cell.zc,Cell.zc],Sh.struct [(0,1,9),(1,1,22),(2,1,23),(3,1,24),(4,1,25),(5,1,26),(6,1,27),(7,1,28),(8,1,29)]⟩:=by kernel_rfl
attribute [go_sem] m31
theorem m34:mkTI prog 34=some ⟨1,8,[Cell.raw (Value.int IntKind.i64 0)],Sh.int IntKind.i64⟩:=by kernel_rfl
attribute [go_sem] m34
theorem w38 {k:TI->OR}:yrq prog 38 k=k ⟨1,24,[Cell.zc],Sh.slice 3 1 8 (some IntKind.i64)⟩:=zti (by kernel_rfl)
theorem m38:mkTI prog 38=some ⟨1,24,[Cell.zc],Sh.slice 3 1 8 (some IntKind.i64)⟩:=by kernel_rfl
attribute [go_sem ↓] w38
attribute [go_sem] m38
theorem w41 {k:TI->OR}:yrq prog 41 k=k ⟨1,24,[Cell.zc],Sh.slice 50 6 104 none⟩:=zti (by kernel_rfl)
theorem m41:mkTI prog 41=some ⟨1,24,[Cell.zc],Sh.slice 50 6 104 none⟩:=by kernel_rfl
attribute [go_sem ↓] w41
attribute [go_sem] m41
theorem m43:mkTI prog 43=some ⟨2,40,[Cell.raw (Value.string ⟨⟨[]⟩⟩),Cell.zc],Sh.struct [(0,1,9),(1,1,41)]⟩:=by kernel_rfl
attribute [go_sem] m43
theorem w48 {k:TI->OR}:yrq prog 48 k=k ⟨1,24,[Cell.zc],Sh.slice 9 1 16 none⟩:=zti (by kernel_rfl)
theorem m48:mkTI prog 48=some ⟨1,24,[Cell.zc],Sh.slice 9 1 16 none⟩:=by kernel_rfl
attribute [go_sem ↓] w48
attribute [go_sem] m48
theorem m50:mkTI prog 50=some ⟨6,104,[Cell.raw (Value.int IntKind.i64 0),Cell.zc,Cell.zc,Cell.raw (Value.string ⟨⟨[]⟩⟩),Cell.zc,Cell.raw (Value.int IntKind.i64 0)],Sh.struct [(0,1,3),(1,1,48),(2,1,48),(3,1,9),(4,1,48),(5,1,3)]⟩:=by kernel_rfl
attribute [go_sem] m50
theorem m58:mkTI prog 58=some ⟨3,48,[Cell.raw (Value.string ⟨⟨[]⟩⟩),Cell.raw (Value.string ⟨⟨[]⟩⟩),Cell.raw (Value.string ⟨⟨[]⟩⟩)],Sh.struct [(0,1,9),(1,1,9),(2,1,9)]⟩:=by kernel_rfl
attribute [go_sem] m58
theorem w63 {k:TI->OR}:yrq prog 63 k=k ⟨1,24,[Cell.zc],Sh.slice 156 2 16 none⟩:=zti (by kernel_rfl)
theorem m63:mkTI prog 63=some ⟨1,24,[Cell.zc],Sh.slice 156 2 16 none⟩:=by kernel_rfl
attribute [go_sem ↓] w63
attribute [go_sem] m63
theorem m65:mkTI prog 65=some ⟨3,56,[Cell.raw (Value.string ⟨⟨[]⟩⟩),Cell.raw (Value.string ⟨⟨[]⟩⟩),Cell.zc],Sh.struct [(0,1,9),(1,1,9),(2,1,63)]⟩:=by kernel_rfl
attribute [go_sem] m65
theorem w66 {k:TI->OR}:yrq prog 66 k=k ⟨1,24,[Cell.zc],Sh.slice 74 2 32 none⟩:=zti (by kernel_rfl)
theorem m66:mkTI prog 66=some ⟨1,24,[Cell.zc],Sh.slice 74 2 32 none⟩:=by kernel_rfl
attribute [go_sem ↓] w66
attribute [go_sem] m66
theorem w67 {k:TI->OR}:yrq prog 67 k=k ⟨1,24,[Cell.zc],Sh.slice 69 5 72 none⟩:=zti (by kernel_rfl)
theorem m67:mkTI prog 67=some ⟨1,24,[Cell.zc],Sh.slice 69 5 72 none⟩:=by kernel_rfl
attribute [go_sem ↓] w67
attribute [go_sem] m67
theorem m69:mkTI prog 69=some ⟨5,72,[Cell.raw (Value.int IntKind.i64 0),Cell.raw (Value.int IntKind.i64 0),Cell.raw (Value.string ⟨⟨[]⟩⟩),Cell.raw (Value.string ⟨⟨[]⟩⟩),Cell.zc],Sh.struct [(0,1,3),(1,1,3),(2,1,9),(3,1,9),(4,1,67)]⟩:=by kernel_rfl
attribute [go_sem] m69
theorem m71:mkTI prog 71=some ⟨7,112,[Cell.raw (Value.string ⟨⟨[]⟩⟩),Cell.zc,Cell.raw (Value.int IntKind.i64 0),Cell.raw (Value.int IntKind.i64 0),Cell.raw (Value.string ⟨⟨[]⟩⟩),Cell.raw (Value.string ⟨⟨[]⟩⟩),Cell.zc],Sh.struct [(0,1,9),(1,1,66),(2,5,69)]⟩:=by kernel_rfl
attribute [go_sem] m71
theorem m74:mkTI prog 74=some ⟨2,32,[Cell.raw (Value.string ⟨⟨[]⟩⟩),Cell.raw (Value.string ⟨⟨[]⟩⟩)],Sh.struct [(0,1,9),(1,1,9)]⟩:=by kernel_rfl
attribute [go_sem] m74
theorem w76 {k:TI->OR}:yrq prog 76 k=k ⟨7,104,[Cell.raw (Value.string ⟨⟨[]⟩⟩),Cell.raw (Value.string ⟨⟨[]⟩⟩),Cell.raw (Value.int IntKind.i64 0),Cell.raw (Value.int IntKind.i64 0),Cell.raw (Value.string ⟨⟨[]⟩⟩),Cell.raw (Value.string ⟨⟨[]⟩⟩),Cell.zc],Sh.struct [(0,1,9),(1,1,9),(2,5,69)]⟩:=zti (by kernel_rfl)
theorem m76:mkTI prog 76=some ⟨7,104,[Cell.raw (Value.string ⟨⟨[]⟩⟩),Cell.raw (Value.string ⟨⟨[]⟩⟩),Cell.raw (Value.int IntKind.i64 0),Cell.raw (Value.int IntKind.i64 0),Cell.raw (Value.string ⟨⟨[]⟩⟩),Cell.raw (Value.string ⟨⟨[]⟩⟩),Cell.zc],Sh.struct [(0,1,9),(1,1,9),(2,5,69)]⟩:=by kernel_rfl
attribute [go_sem ↓] w76
attribute [go_sem] m76
theorem m84:mkTI prog 84=some ⟨1,8,[Cell.raw (Value.map none)],Sh.map 9 4⟩:=by kernel_rfl
attribute [go_sem] m84
theorem m87:mkTI prog 87=some ⟨2,16,[Cell.raw (Value.map none),Cell.raw (Value.bool false)],Sh.struct [(0,1,84),(1,1,4)]⟩:=by kernel_rfl
attribute [go_sem] m87
theorem m92:mkTI prog 92=some ⟨6,72,[Cell.raw (Value.string ⟨⟨[]⟩⟩),Cell.raw (Value.string ⟨⟨[]⟩⟩),Cell.raw (Value.int IntKind.i64 0),Cell.raw (Value.int IntKind.i64 0),Cell.raw (Value.string ⟨⟨[]⟩⟩),Cell.raw (Value.int IntKind.i64 0)],Sh.struct [(0,1,9),(1,1,9),(2,1,3),(3,1,3),(4,1,9),(5,1,3)]⟩:=by kernel_rfl
attribute [go_sem] m92
theorem m94:mkTI prog 94=some ⟨3,40,[Cell.raw (Value.string ⟨⟨[]⟩⟩),Cell.raw (Value.string ⟨⟨[]⟩⟩),Cell.raw (Value.int IntKind.i64 0)],Sh.struct [(0,1,9),(1,1,9),(2,1,3)]⟩:=by kernel_rfl
attribute [go_sem] m94
theorem m100:mkTI prog 100=some ⟨3,40,[Cell.raw (Value.string ⟨⟨[]⟩⟩),Cell.raw (Value.string ⟨⟨[]⟩⟩),Cell.raw (Value.int IntKind.i64 0)],Sh.struct [(0,1,9),(1,1,9),(2,1,3)]⟩:=by kernel_rfl
attribute [go_sem] m100
theorem m102:mkTI prog 102=some ⟨1,8,[Cell.raw (Value.map none)],Sh.map 9 9⟩:=by kernel_rfl
attribute [go_sem] m102
theorem m103:mkTI prog 103=some ⟨1,8,[Cell.raw (Value.map none)],Sh.map 114 4⟩:=by kernel_rfl
attribute [go_sem] m103
theorem m105:mkTI prog 105=some ⟨3,24,[Cell.raw (Value.map none),Cell.raw (Value.map none),Cell.raw (Value.map none)],Sh.struct [(0,1,102),(1,1,102),(2,1,103)]⟩:=by kernel_rfl
attribute [go_sem] m105
theorem m107:mkTI prog 107=some ⟨1,8,[Cell.raw (Value.map none)],Sh.map 114 3⟩:=by kernel_rfl
attribute [go_sem] m107
theorem m108:mkTI prog 108=some ⟨1,8,[Cell.raw (Value.map none)],Sh.map 114 3⟩:=by kernel_rfl
attribute [go_sem] m108
theorem w111 {k:TI->OR}:yrq prog 111 k=k ⟨1,24,[Cell.zc],Sh.slice 114 2 24 none⟩:=zti (by kernel_rfl)
theorem m111:mkTI prog 111=some ⟨1,24,[Cell.zc],Sh.slice 114 2 24 none⟩:=by kernel_rfl
attribute [go_sem ↓] w111
attribute [go_sem] m111
theorem m114:mkTI prog 114=some ⟨2,24,[Cell.raw (Value.int IntKind.i64 0),Cell.raw (Value.string ⟨⟨[]⟩⟩)],Sh.struct [(0,1,3),(1,1,9)]⟩:=by kernel_rfl
attribute [go_sem] m114
theorem m124:mkTI prog 124=some ⟨2,16,[Cell.raw (Value.int IntKind.i64 0),Cell.raw (Value.int IntKind.i64 0)],Sh.array 2 3 1⟩:=by kernel_rfl
attribute [go_sem] m124
theorem m126:mkTI prog 126=some ⟨8,56,[Cell.raw (Value.string ⟨⟨[]⟩⟩),Cell.raw (Value.int IntKind.i64 0),Cell.raw (Value.int IntKind.i64 0),Cell.raw (Value.int IntKind.i64 0),Cell.raw (Value.int IntKind.i64 0),Cell.raw (Value.bool false),Cell.raw (Value.bool false),Cell.raw (Value.bool false)],Sh.struct [(0,1,9),(1,2,124),(3,2,124),(5,1,4),(6,1,4),(7,1,4)]⟩:=by kernel_rfl
attribute [go_sem] m126
theorem m127:mkTI prog 127=some ⟨72,504,[Cell.raw (Value.string ⟨⟨[]⟩⟩),Cell.raw (Value.int IntKind.i64 0),Cell.raw (Value.int IntKind.i64 0),Cell.raw (Value.int IntKind.i64 0),Cell.raw (Value.int IntKind.i64 0),Cell.raw (Value.bool false),Cell.raw (Value.bool false),Cell.raw (Value.bool false),Cell.raw (Value.string ⟨⟨[]⟩⟩),Cell.raw (Value.int IntKind.i64 0),Cell.raw (Value.int IntKind.i64 0),Cell.raw (Value.int IntKind.i64 0),Cell.raw (Value.int IntKind.i64 0),Cell.raw (Value.bool false),Cell.raw (Value.bool false),Cell.raw (Value.bool false),Cell.raw (Value.string ⟨⟨[]⟩⟩),Cell.raw (Value.int IntKind.i64 0),Cell.raw (Value.int IntKind.i64 0),Cell.raw (Value.int IntKind.i64 0),Cell.raw (Value.int IntKind.i64 0),Cell.raw (Value.bool false),Cell.raw (Value.bool false),Cell.raw (Value.bool false),Cell.raw (Value.string ⟨⟨[]⟩⟩),Cell.raw (Value.int IntKind.i64 0),Cell.raw (Value.int IntKind.i64 0),Cell.raw (Value.int IntKind.i64 0),Cell.raw (Value.int IntKind.i64 0),Cell.raw (Value.bool false),Cell.raw (Value.bool false),Cell.raw (Value.bool false),Cell.raw (Value.string ⟨⟨[]⟩⟩),Cell.raw (Value.int IntKind.i64 0),Cell.raw (Value.int IntKind.i64 0),Cell.raw (Value.int IntKind.i64 0),Cell.raw (Value.int IntKind.i64 0),Cell.raw (Value.bool false),Cell.raw (Value.bool false),Cell.raw (Value.bool false),Cell.raw (Value.string ⟨⟨[]⟩⟩),Cell.raw (Value.int IntKind.i64 0),Cell.raw (Value.int IntKind.i64 0),Cell.raw (Value.int IntKind.i64 0),Cell.raw (Value.int IntKind.i64 0),Cell.raw (Value.bool false),Cell.raw (Value.bool false),Cell.raw (Value.bool false),Cell.raw (Value.string ⟨⟨[]⟩⟩),Cell.raw (Value.int IntKind.i64 0),Cell.raw (Value.int IntKind.i64 0),Cell.raw (Value.int IntKind.i64 0),Cell.raw (Value.int IntKind.i64 0),Cell.raw (Value.bool false),Cell.raw (Value.bool false),Cell.raw (Value.bool false),Cell.raw (Value.string ⟨⟨[]⟩⟩),Cell.raw (Value.int IntKind.i64 0),Cell.raw (Value.int IntKind.i64 0),Cell.raw (Value.int IntKind.i64 0),Cell.raw (Value.int IntKind.i64 0),Cell.raw (Value.bool false),Cell.raw (Value.bool false),Cell.raw (Value.bool false),Cell.raw (Value.string ⟨⟨[]⟩⟩),Cell.raw (Value.int IntKind.i64 0),Cell.raw (Value.int IntKind.i64 0),Cell.raw (Value.int IntKind.i64 0),Cell.raw (Value.int IntKind.i64 0),Cell.raw (Value.bool false),Cell.raw (Value.bool false),Cell.raw (Value.bool false)],Sh.array 9 126 8⟩:=by kernel_rfl
attribute [go_sem] m127
theorem m131:mkTI prog 131=some ⟨6,48,[Cell.raw (Value.int IntKind.i64 0),Cell.raw (Value.int IntKind.i64 0),Cell.raw (Value.int IntKind.i64 0),Cell.raw (Value.int IntKind.i64 0),Cell.raw (Value.int IntKind.i64 0),Cell.raw (Value.int IntKind.i64 0)],Sh.array 6 3 1⟩:=by kernel_rfl
attribute [go_sem] m131
theorem m133:mkTI prog 133=some ⟨2,32,[Cell.raw (Value.int IntKind.i64 0),Cell.zc],Sh.struct [(0,1,3),(1,1,38)]⟩:=by kernel_rfl
attribute [go_sem] m133
theorem m135:mkTI prog 135=some ⟨4,64,[Cell.raw (Value.int IntKind.i64 0),Cell.zc,Cell.raw (Value.int IntKind.i64 0),Cell.zc],Sh.struct [(0,2,133),(2,2,133)]⟩:=by kernel_rfl
attribute [go_sem] m135
theorem m137:mkTI prog 137=some ⟨10,112,[Cell.raw (Value.int IntKind.i64 0),Cell.raw (Value.int IntKind.i64 0),Cell.raw (Value.int IntKind.i64 0),Cell.raw (Value.int IntKind.i64 0),Cell.raw (Value.int IntKind.i64 0),Cell.raw (Value.int IntKind.i64 0),Cell.raw (Value.int IntKind.i64 0),Cell.zc,Cell.raw (Value.int IntKind.i64 0),Cell.zc],Sh.struct [(0,6,131),(6,4,135)]⟩:=by kernel_rfl
attribute [go_sem] m137
theorem m145:mkTI prog 145=some ⟨1,8,[Cell.raw Value.nilFunc],Sh.cell⟩:=by kernel_rfl
attribute [go_sem] m145
theorem m156:mkTI prog 156=some ⟨2,16,[Cell.raw (Value.int IntKind.i64 0),Cell.raw (Value.int IntKind.i64 0)],Sh.struct [(0,1,3),(1,1,3)]⟩:=by kernel_rfl
attribute [go_sem] m156
theorem w160 {k:TI->OR}:yrq prog 160 k=k ⟨1,24,[Cell.zc],Sh.slice 165 2 24 none⟩:=zti (by kernel_rfl)
theorem m160:mkTI prog 160=some ⟨1,24,[Cell.zc],Sh.slice 165 2 24 none⟩:=by kernel_rfl
attribute [go_sem ↓] w160
attribute [go_sem] m160
theorem m165:mkTI prog 165=some ⟨2,24,[Cell.raw (Value.string ⟨⟨[]⟩⟩),Cell.raw (Value.int IntKind.i64 0)],Sh.struct [(0,1,9),(1,1,3)]⟩:=by kernel_rfl
attribute [go_sem] m165
theorem w170 {k:TI->OR}:yrq prog 170 k=k ⟨1,24,[Cell.zc],Sh.slice 179 4 40 none⟩:=zti (by kernel_rfl)
theorem m170:mkTI prog 170=some ⟨1,24,[Cell.zc],Sh.slice 179 4 40 none⟩:=by kernel_rfl
attribute [go_sem ↓] w170
attribute [go_sem] m170
theorem m174:mkTI prog 174=some ⟨2,16,[Cell.raw (Value.int IntKind.i64 0),Cell.raw (Value.int IntKind.i64 0)],Sh.struct [(0,1,3),(1,1,34)]⟩:=by kernel_rfl
attribute [go_sem] m174
theorem m179:mkTI prog 179=some ⟨4,40,[Cell.raw (Value.int IntKind.i64 0),Cell.raw (Value.string ⟨⟨[]⟩⟩),Cell.raw (Value.int IntKind.i64 0),Cell.raw (Value.int IntKind.i64 0)],Sh.struct [(0,1,3),(1,1,9),(2,1,3),(3,1,3)]⟩:=by kernel_rfl
attribute [go_sem] m179
theorem m181:mkTI prog 181=some ⟨2,32,[Cell.zc,Cell.raw (Value.int IntKind.i64 0)],Sh.struct [(0,1,170),(1,1,3)]⟩:=by kernel_rfl
attribute [go_sem] m181
theorem w222 {k:TI->OR}:yrq prog 222 k=k ⟨1,8,[Cell.raw (Value.int IntKind.u64 0)],Sh.int IntKind.u64⟩:=zti (by kernel_rfl)
attribute [go_sem ↓] w222
theorem u222:prog.underlying 222=some (TypeDesc.int IntKind.u64):=by kernel_rfl
attribute [go_sem] u222
theorem m230:mkTI prog 230=some ⟨13,13,[Cell.raw (Value.int IntKind.u8 0),Cell.raw (Value.int IntKind.u8 0),Cell.raw (Value.int IntKind.u8 0),Cell.raw (Value.int IntKind.u8 0),Cell.raw (Value.int IntKind.u8 0),Cell.raw (Value.int IntKind.u8 0),Cell.raw (Value.int IntKind.u8 0),Cell.raw (Value.int IntKind.u8 0),Cell.raw (Value.int IntKind.u8 0),Cell.raw (Value.int IntKind.u8 0),Cell.raw (Value.int IntKind.u8 0),Cell.raw (Value.int IntKind.u8 0),Cell.raw (Value.int IntKind.u8 0)],Sh.array 13 5 1⟩:=by kernel_rfl
attribute [go_sem] m230
theorem m253:mkTI prog 253=some ⟨1,24,[Cell.zc],Sh.slice 5 1 1 (some IntKind.u8)⟩:=by kernel_rfl
attribute [go_sem] m253
theorem u253:prog.underlying 253=some (TypeDesc.slice 5):=by kernel_rfl
attribute [go_sem] u253
theorem m261:mkTI prog 261=some ⟨1,8,[Cell.raw (Value.pointer none)],Sh.cell⟩:=by kernel_rfl
attribute [go_sem] m261
theorem za8:z7n prog 261=some 263:=by kernel_rfl
attribute [go_sem] za8
theorem u261:prog.underlying 261=some (TypeDesc.pointer 263):=by kernel_rfl
attribute [go_sem] u261
theorem m263:mkTI prog 263=some ⟨2,32,[Cell.raw (Value.pointer none),Cell.zc],Sh.struct [(0,1,261),(1,1,253)]⟩:=by kernel_rfl
attribute [go_sem] m263
theorem m271:mkTI prog 271=some ⟨3,40,[Cell.zc,Cell.raw (Value.int IntKind.i64 0),Cell.raw (Value.bool false)],Sh.struct [(0,1,170),(1,1,3),(2,1,4)]⟩:=by kernel_rfl
attribute [go_sem] m271
theorem xuc:z7n prog 274=some 5:=by kernel_rfl
attribute [go_sem] xuc
theorem u281:prog.underlying 281=some TypeDesc.unsafePointer:=by kernel_rfl
attribute [go_sem] u281
theorem vti:prog.info? 263=some (v6a prog 263):=by kernel_rfl
attribute [go_sem] vti
theorem vfb:((v6a prog 263).size != 0)=true:=by kernel_rfl
attribute [go_sem] vfb
theorem e240:yix prog 240=true:=by kernel_rfl
attribute [go_sem] e240
theorem ywz:(List.range 272).all (fun n=>n==240||!yix prog n)=true:=by kernel_rfl
theorem eAll (n:Nat) (h:n<272) (h240:n≠240):yix prog n=false:=by
 have:=List.all_eq_true.1 ywz n (List.mem_range.2 h)
 simpa [h240] using this
attribute [go_sem] eAll
theorem mixed:prog.follows .mixedOrders=true:=by kernel_rfl
theorem yvz {k:Bool->Prop}:zc2 prog k=k true:=propext ⟨fun h=>h.2,fun h=>⟨mixed,h⟩⟩
attribute [go_sem] yvz
end Go.Slot.T
namespace Go.Hp
open Go Go.RowKit Go.Slot
variable {P:Program} {Γ:List (Nat×List Cell)} {e:List SB} {G:List (Nat×List GhH)}
theorem zq0 {p:Prop} [Decidable p] {X Y:Bool->Prop} (hx:p->decide p=true->X true) (hy:¬p->decide p=false->Y true):zae (decide p) true X Y:=⟨fun h=>hx (of_decide_eq_true h) h,fun h=>hy (of_decide_eq_false h) h⟩
theorem zjc {p:Prop} [Decidable p] {X Y:Bool->Prop} (hx:¬p->decide p=false->X true) (hy:p->decide p=true->Y true):zae (decide p) false X Y:=⟨fun h=>hx (of_decide_eq_false h) h,fun h=>hy (of_decide_eq_true h) h⟩
theorem ydi {c:Bool} {X Y:Bool->Prop} (hx:c=true->X true) (hy:c=false->Y true):zae c true X Y:=⟨hx,hy⟩
theorem wh3 {c:Bool} {X Y:Bool->Prop} (hx:c=false->X true) (hy:c=true->Y true):zae c false X Y:=⟨hx,hy⟩
theorem zcl {p:Prop} [Decidable p] {X Y:Bool->Prop} (hx:p->decide p=true->X true) (hy:¬p->decide p=false->Y true):vsl (decide p) X Y:=⟨fun h=>hx (of_decide_eq_true h) h,fun h=>hy (of_decide_eq_false h) h⟩
theorem wou {c:Bool} {X Y:Bool->Prop} (hx:c=true->X true) (hy:c=false->Y true):vsl c X Y:=⟨hx,hy⟩
theorem zzw {c:Bool} {X Y:Bool->Prop} (hx:c=false->X true) (hy:c=true->Y true):zae (!c) true X Y:=⟨fun h=>hx (by simpa using h),fun h=>hy (by simpa using h)⟩
theorem x7n {c:Bool} {X Y:Bool->Prop} (hx:c=true->X true) (hy:c=false->Y true):zae (!c) false X Y:=⟨fun h=>hx (by simpa using h),fun h=>hy (by simpa using h)⟩
theorem x6e {c:Bool} {X Y:Bool->Prop} (hx:c=false->X true) (hy:c=true->Y true):vsl (!c) X Y:=⟨fun h=>hx (by simpa using h),fun h=>hy (by simpa using h)⟩
theorem hg {p q:Prop} (k:q) (h:p=q:=by conv=>lhs;simp (maxSteps:=2000000) (disch:=omega) only [go_sem,Nat.reduceAdd,Nat.reduceSub,Nat.reduceMul,Int.reduceToNat,Nat.reduceEqDiff,Nat.reduceBEq,Nat.reduceBneDiff,Nat.reduceLT,Int.reduceEq,Int.reduceLT,Int.reduceLE,Int.reduceNeg,Int.reduceAdd,Int.reduceSub,Int.reduceMul]):p:=Eq.mpr h k
theorem hgS {p q:Prop} (k:q) (h:p=q:=by conv=>lhs;simp (maxSteps:=2000000) (disch:=omega) only [go_sem,Nat.reduceAdd,Nat.reduceSub,Nat.reduceMul,Int.reduceToNat,Nat.reduceEqDiff,Nat.reduceBEq,Nat.reduceBneDiff,Nat.reduceLT,Int.reduceEq,Int.reduceLT,Int.reduceLE,Int.reduceNeg,Int.reduceAdd,Int.reduceSub,Int.reduceMul, *]):p:=Eq.mpr h k
theorem hgR {p q:Prop} (k:q) (h:p=q:=by conv=>lhs;simp (maxSteps:=2000000) (disch:=omega) only [go_sem,Nat.reduceAdd,Nat.reduceSub,Nat.reduceMul,Int.reduceToNat,Nat.reduceEqDiff,Nat.reduceBEq,Nat.reduceBneDiff,Nat.reduceLT,Int.reduceEq,Int.reduceLT,Int.reduceLE,Int.reduceNeg,Int.reduceAdd,Int.reduceSub,Int.reduceMul,List.replicate]):p:=Eq.mpr h k
theorem hfk {p q r:Prop} (k:q) (l:r) (h:q->r->p:=by with_reducible first | exact fun a b=>zq0 a b | exact fun a b=>zjc a b | exact fun a b=>zzw a b | exact fun a b=>x7n a b | exact fun a b=>ydi a b | exact fun a b=>wh3 a b | exact fun a b=>zcl a b | exact fun a b=>x6e a b | exact fun a b=>wou a b):p:=h k l
theorem hik {ops:List Oper} {acc:List HR} {k:Bool->Prop} (hk:k true) (h:xz4 ops acc=true:=by kernel_rfl):xll ops acc k:=⟨h,hk⟩
theorem svl {a b:List SV} (h:vi2 a b:=by repeat' first | exact .nil | refine .cons (by first | exact .refl _ | exact .any _) ?_):vi2 a b:=h
theorem RLe.ofEq {x y:AV} (h:x=y):RLe x y:=h▸.one (.refl _)
theorem zh5 {p:Prop} [Decidable p]:(!decide p)=decide (¬p):=by by_cases h:p<;>simp [h]
theorem lfE {x y:AV} {p:Prop} (k:p) (h:(x=y)=p:=by conv=>lhs;simp only [Bool.and_true,Bool.true_and,Bool.and_false,Bool.false_and,Bool.or_true,Bool.true_or,Bool.or_false,Bool.false_or,Bool.not_true,Bool.not_false,decide_true,decide_false,not_true_eq_false,not_false_eq_true,zh5,if_true,if_false,Bool.and_self,Bool.or_self,cond_true,cond_false,List.length_map,ne_eq,Int.reduceEq,Int.reduceLT,Int.reduceLE, *]):RLe x y:=RLe.ofEq (h.symm▸k)
theorem lf1 {x y:AV} {a p:Prop} (ra:a) (k:p) (h:a->(x=y)=p:=by intro z1;conv=>lhs;simp only [Bool.and_true,Bool.true_and,Bool.and_false,Bool.false_and,Bool.or_true,Bool.true_or,Bool.or_false,Bool.false_or,Bool.not_true,Bool.not_false,decide_true,decide_false,not_true_eq_false,not_false_eq_true,zh5,if_true,if_false,Bool.and_self,Bool.or_self,cond_true,cond_false,List.length_map,ne_eq,Int.reduceEq,Int.reduceLT,Int.reduceLE, *]):RLe x y:=RLe.ofEq ((h ra).symm▸k)
theorem lf2 {x y:AV} {a b p:Prop} (ra:a) (rb:b) (k:p) (h:a->b->(x=y)=p:=by intro z1 z2;conv=>lhs;simp only [Bool.and_true,Bool.true_and,Bool.and_false,Bool.false_and,Bool.or_true,Bool.true_or,Bool.or_false,Bool.false_or,Bool.not_true,Bool.not_false,decide_true,decide_false,not_true_eq_false,not_false_eq_true,zh5,if_true,if_false,Bool.and_self,Bool.or_self,cond_true,cond_false,List.length_map,ne_eq,Int.reduceEq,Int.reduceLT,Int.reduceLE, *]):RLe x y:=RLe.ofEq ((h ra rb).symm▸k)
theorem bsE {q p:Prop} (k:p) (h:q=p:=by conv=>lhs;simp only [Bool.and_true,Bool.true_and,Bool.and_false,Bool.false_and,Bool.or_true,Bool.true_or,Bool.or_false,Bool.false_or,Bool.not_true,Bool.not_false,decide_true,decide_false,not_true_eq_false,not_false_eq_true,zh5,if_true,if_false,Bool.and_self,Bool.or_self,cond_true,cond_false,List.length_map,ne_eq,Int.reduceEq,Int.reduceLT,Int.reduceLE, *]):q:=h.symm▸k
theorem bs1 {a q p:Prop} (ra:a) (k:p) (h:a->q=p:=by intro z1;conv=>lhs;simp only [Bool.and_true,Bool.true_and,Bool.and_false,Bool.false_and,Bool.or_true,Bool.true_or,Bool.or_false,Bool.false_or,Bool.not_true,Bool.not_false,decide_true,decide_false,not_true_eq_false,not_false_eq_true,zh5,if_true,if_false,Bool.and_self,Bool.or_self,cond_true,cond_false,List.length_map,ne_eq,Int.reduceEq,Int.reduceLT,Int.reduceLE, *]):q:=(h ra).symm▸k
theorem bs2 {a b q p:Prop} (ra:a) (rb:b) (k:p) (h:a->b->q=p:=by intro z1 z2;conv=>lhs;simp only [Bool.and_true,Bool.true_and,Bool.and_false,Bool.false_and,Bool.or_true,Bool.true_or,Bool.or_false,Bool.false_or,Bool.not_true,Bool.not_false,decide_true,decide_false,not_true_eq_false,not_false_eq_true,zh5,if_true,if_false,Bool.and_self,Bool.or_self,cond_true,cond_false,List.length_map,ne_eq,Int.reduceEq,Int.reduceLT,Int.reduceLE, *]):q:=(h ra rb).symm▸k
theorem hg1 {a p q:Prop} (ra:a) (k:q) (h:a->p=q:=by intro z1;conv=>lhs;simp (maxSteps:=2000000) (disch:=omega) only [go_sem,Nat.reduceAdd,Nat.reduceSub,Nat.reduceMul,Int.reduceToNat,Nat.reduceEqDiff,Nat.reduceBEq,Nat.reduceBneDiff,Nat.reduceLT,Int.reduceEq,Int.reduceLT,Int.reduceLE,Int.reduceNeg,Int.reduceAdd,Int.reduceSub,Int.reduceMul,z1]):p:=Eq.mpr (h ra) k
theorem hg2 {a b p q:Prop} (ra:a) (rb:b) (k:q) (h:a->b->p=q:=by intro z1 z2;conv=>lhs;simp (maxSteps:=2000000) (disch:=omega) only [go_sem,Nat.reduceAdd,Nat.reduceSub,Nat.reduceMul,Int.reduceToNat,Nat.reduceEqDiff,Nat.reduceBEq,Nat.reduceBneDiff,Nat.reduceLT,Int.reduceEq,Int.reduceLT,Int.reduceLE,Int.reduceNeg,Int.reduceAdd,Int.reduceSub,Int.reduceMul,z1,z2]):p:=Eq.mpr (h ra rb) k
theorem hg3 {a b c p q:Prop} (ra:a) (rb:b) (rc:c) (k:q) (h:a->b->c->p=q:=by intro z1 z2 z3;conv=>lhs;simp (maxSteps:=2000000) (disch:=omega) only [go_sem,Nat.reduceAdd,Nat.reduceSub,Nat.reduceMul,Int.reduceToNat,Nat.reduceEqDiff,Nat.reduceBEq,Nat.reduceBneDiff,Nat.reduceLT,Int.reduceEq,Int.reduceLT,Int.reduceLE,Int.reduceNeg,Int.reduceAdd,Int.reduceSub,Int.reduceMul,z1,z2,z3]):p:=Eq.mpr (h ra rb rc) k
def swL (i j:Nat) (η:List SB):List SB:=(List.range η.length).map fun k=>swSB i j (gB η (sw i j k))
theorem vc0 {i j k n:Nat} (hi:i<n) (hj:j<n) (hk:k<n):sw i j k<n:=by unfold sw;split<;>(try split)<;>omega
theorem StH.xqu {J:List SV} {η:List SB} {i j:Nat} (hi:e.length<=i) (hj:e.length<=j) (hil:i<η.length) (hjl:j<η.length):StH Γ e J η (J.map (swSV i j)) (swL i j η):=by
 refine StH.swap hi hj hil hjl (fun b x hb=>.inl ?_) (by simp [swL]);have hbl:b<η.length:=(List.getElem?_eq_some_iff.1 hb).1;unfold swL;rw [List.getElem?_map,List.getElem?_range (vc0 hil hjl hbl)];simp only [Option.map_some,y9w];unfold gB;rw [hb];rfl
def xol (m:Nat) (J:List SV) (η:List SB):Bool:=(J.all fun x=>(ycp x).all fun b=>Nat.blt b m)&&((η.take m).all fun x=>(xoj x).all fun b=>Nat.blt b m)
theorem StH.cutB {J:List SV} {η:List SB} (m:Nat) (hm:e.length<=m) (h:xol m J η=true):StH Γ e J η J (η.take m):=by
 unfold xol at h;rw [Bool.and_eq_true,List.all_eq_true,List.all_eq_true] at h;refine StH.cut hm (fun i x hx b hb=>?_) (fun i x hi hx=>.inr fun b hb=>?_)
 . have:=h.1 x (List.mem_of_getElem? hx)
   rw [List.all_eq_true] at this;simpa using this b hb
 . have:=h.2 x (List.mem_of_getElem? (by rw [List.getElem?_take_of_lt hi];exact hx))
   rw [List.all_eq_true] at this;simpa using this b hb
theorem StH.back {J J':List SV} {η η':List SB} (ks:List Nat) (i j m:Nat) (hi:Nat.ble e.length i=true) (hj:Nat.ble e.length j=true) (hm:Nat.ble e.length m=true) (hil:Nat.blt i η.length=true) (hjl:Nat.blt j η.length=true) (h:xol m ((zkc ks 0 J).map (swSV i j)) (swL i j η)=true)
 (hk:StH Γ e ((zkc ks 0 J).map (swSV i j)) ((swL i j η).take m) J' η'):StH Γ e J η J' η':=
 StH.trans (StH.only ks) (StH.trans (StH.xqu (by simpa using hi) (by simpa using hj) (by simpa using hil) (by simpa using hjl)) (StH.trans (StH.cutB m (by simpa using hm) h) hk))
theorem StH.same {J:List SV} {η:List SB} {J':List SV} {η':List SB} (h:vi2 J J') (hη:η=η'):StH Γ e J η J' η':=hη▸StH.vrv h
theorem StH.done {J J':List SV} {η η':List SB} (m:Nat) (hm:Nat.ble e.length m=true) (h:xol m J η=true) (hσ:J=J') (hη:η.take m=η'):StH Γ e J η J' η':=
 hσ▸hη▸StH.cutB m (by simpa using hm) h
theorem v6v.of {φ:List Nat} {η ηs:List SB} (h:φ.map (fun j=>η[j]?)=ηs.map (fun x=>some (rnSB (atR φ η.length) x))):v6v φ η ηs:=by
 have hl:ηs.length=φ.length:=by
  have:=congrArg List.length h
  simpa using this.symm
 refine ⟨hl,fun i x hx=>?_⟩;have hi:i<ηs.length:=(List.getElem?_eq_some_iff.1 hx).1;refine ⟨φ[i]'(by omega),List.getElem?_eq_getElem _,?_⟩;have h1:=congrArg (fun l=>l[i]?) h;simp only [List.getElem?_map,hx,Option.map_some] at h1;rw [List.getElem?_eq_getElem (by omega)] at h1;simpa using h1
theorem wod.at (φ:List Nat) {f:FuncId} {η ηs ηs':List SB} {args:List SV} {res:SV} (h:wod Γ P f ηs args ηs' res) (hn:φ.Nodup) (hb:(φ.all fun j=>Nat.blt j η.length)=true)
 (hp:φ.map (fun j=>η[j]?)=ηs.map (fun x=>some (rnSB (atR φ η.length) x))) (hlen:Nat.ble φ.length ηs'.length=true):wod Γ P f η (args.map (vdy (atR φ η.length))) (putR φ η ηs') (rnSV (atR φ η.length) res):=
 wod.frame hn (fun j hj=>by simpa using List.all_eq_true.1 hb j hj) (v6v.of hp) (by simpa using hlen) h
theorem xwj (φ:List Nat) {f:FuncId} {η ηs ηs':List SB} {args l:List SV} {res:SV} {K:Bool->List SB->SV->Prop} (h:wod Γ P f ηs args ηs' res) (hl:args.map (vdy (atR φ η.length))=l) (hn:φ.Nodup) (hb:(φ.all fun j=>Nat.blt j η.length)=true)
 (hp:φ.map (fun j=>η[j]?)=ηs.map (fun x=>some (rnSB (atR φ η.length) x))) (hlen:Nat.ble φ.length ηs'.length=true) (hk:K true (putR φ η ηs') (rnSV (atR φ η.length) res)):v2g Γ P f η l K:=
 hl▸xbg (wod.at φ h hn hb hp hlen) hk
theorem v75 {a b:ByteArray}:seq a b=decide (a=b):=by
 unfold seq;rw [ByteArray.toList_eq,ByteArray.toList_eq];by_cases h:a=b
 . rw [h];simp
 . rw [decide_eq_false h]
   have:a.data.toList≠b.data.toList:=fun he=>h (ByteArray.ext (Array.toList_inj.1 he))
   simpa using this
theorem xz8 {s:ByteArray}:seq s ⟨#[]⟩=decide (s.size=0):=by
 rw [v75];refine decide_eq_decide.2 ⟨fun h=>by rw [h];rfl,fun h=>ByteArray.ext (Array.eq_empty_of_size_eq_zero h)⟩
theorem w8 {n:Int} (h:0<=n/\n<=255):IntKind.u8.wrap n=n:=by rw [IntKind.wrap_u8];omega
attribute [go_sem] w8
theorem xg8 {n:Nat}:((n:Int)-1).toNat=n-1:=by omega
theorem xo8 {n:Nat}:((n:Int)+1).toNat=n+1:=by omega
attribute [go_sem] xg8 xo8
theorem wfv {J:List SV} {t:Nat}:gt (J.map vw) t=vw (gtS J t):=ytc t
attribute [go_sem] wfv ybt valB elemAt
attribute [go_sem] xz8 zh5 List.size_toArray List.length_map List.getD_cons_zero List.getD_cons_succ
attribute [go_sem] xhp vrx xwl eqOf litH v7m wlr xie usdH usH xeh vyi v2k vy8 eqL
attribute [go_sem] putR atR rnSB rnHC vdy rnSV List.zip_cons_cons List.zip_nil_left List.zip_nil_right List.drop_succ_cons
attribute [go_sem] swSV wut swHC swSB sw List.map_nil
end Go.Hp
namespace Go.Hp.T
open Go Go.RowKit Go.Slot Go.Hp
set_option maxRecDepth 10000
theorem toD {Γ:List (Nat×List Cell)} {P:Program} {f:FuncId} {args:List AV} {res:AV} (h:CallsD Γ P f args res):CallsD Γ P f args res:=h
abbrev cI (n:Int):Cell:=.raw (.int .i64 n)
abbrev c8 (n:Int):Cell:=.raw (.int .u8 n)
abbrev cS (s:ByteArray):Cell:=.raw (.string s)
abbrev cB (b:Bool):Cell:=.raw (.bool b)
abbrev fN (f:FuncId):AV:=.one (.raw (.func (.func f) #[] #[]))
def xom (s:ByteArray):List Int:=(List.range s.size).map (xw3 s)
theorem xe3 (s:ByteArray):(xom s).length=s.size:=by simp [xom]
theorem xfe (s:ByteArray) (i:Nat) (h:i<s.size):(xom s)[i]? = some (xw3 s i):=by simp [xom,h]
def xgp (p:Int->Bool) (s:ByteArray):Nat:=((xom s).takeWhile p).length
theorem w6p {α:Type} (p:α->Bool):∀(l:List α) (n:Nat),n<=l.length->(∀ j x,j<n->l[j]? = some x->p x=true)->(n=l.length\/∃ x,l[n]? = some x/\p x=false)->(l.takeWhile p).length=n
 | [],n,hn,_,_=>by simp at hn;simp [hn]
 | a::l,0,_,_,h=>by
  rcases h with h | ⟨x,hx,hp⟩
  . simp at h
  . simp at hx;subst hx;simp [List.takeWhile,hp]
 | a::l,n+1,hn,hj,h=>by
  have ha:p a=true:=hj 0 a (by omega) rfl;rw [List.takeWhile_cons_of_pos ha,List.length_cons,w6p p l n (by simpa using hn) (fun j x h1 h2=>hj (j+1) x (by omega) (by simpa using h2)) ?_]
  rcases h with h | ⟨x,hx,hp⟩
  . exact .inl (by simpa using h)
  . exact .inr ⟨x,by simpa using hx,hp⟩
theorem x2o {p:Int->Bool} {s:ByteArray} {n:Nat} (hn:n<=s.size) (hj:∀ j,j<n->p (xw3 s j)=true) (h:n=s.size\/p (xw3 s n)=false):xgp p s=n:=by
 refine w6p p _ n (by rw [xe3];exact hn) (fun j x h1 h2=>?_) ?_
 . rw [xfe s j (by omega)] at h2;cases h2;exact hj j h1
 . by_cases e:n=s.size
   . exact .inl (by rw [xe3];exact e)
   . rcases h with h | h
     . exact absurd h e
     . exact .inr ⟨_,xfe s n (by omega),h⟩
theorem zzy (p:Int->Bool) (s:ByteArray):xgp p s<=s.size:=by
 have:=(List.takeWhile_sublist p (l:=xom s)).length_le
 rw [xe3] at this;exact this
def ylw (c:Int):Bool:=(decide (97<=c)&&decide (c<=122))||(decide (65<=c)&&decide (c<=90))
def isDigit (c:Int):Bool:=decide (48<=c)&&decide (c<=57)
def zdh (c:Int):Bool:=ylw c||isDigit c||decide (c=95)
def xef (c:Int):Bool:=decide (32<=c)&&decide (c<=126)
def isName (s:ByteArray):Bool:=decide (¬s.size=0)&&ylw (xw3 s 0)&&decide ((s.size:Int)<=20)&&decide ((xgp zdh s:Int)=s.size)
def xbh (s:ByteArray):Bool:=!(decide (400<(s.size:Int))||decide (¬(xgp xef s:Int)=s.size))
def escB (c:Int):List Int:=bif decide (c=34)||decide (c=92) then [92,c] else [c]
def escA (s:ByteArray) (i:Nat):List Int:=34::((xom s).take i).flatMap escB
def escS (s:ByteArray):ByteArray:=strOfNums (escA s s.size++[34])
theorem zdk {s:ByteArray} {i:Nat} (h:i<s.size):escA s (i+1)=escA s i++escB (xw3 s i):=by
 unfold escA
 have:(xom s).take (i+1)=(xom s).take i++[xw3 s i]:=by
  rw [List.take_add_one,xfe s i h];rfl
 rw [this];simp
theorem zw4 (s:ByteArray) (i:Nat):wtu (xw3 s i)=true:=by
 unfold wtu xw3
 have:=((s.data[i]?).getD 0).toNat_lt
 simp;omega
theorem vrn {c:Int} (h:wtu c=true):(escB c).all wtu=true:=by
 unfold escB
 have h':0<=c/\c<256:=by simpa [wtu] using h
 cases decide (c=34)||decide (c=92)<;>simp [wtu,h']
theorem yxd (s:ByteArray) (i:Nat):(escA s i).all wtu=true:=by
 have hb:∀ c∈xom s,wtu c=true:=fun c hc=>by
  simp only [xom,List.mem_map] at hc;obtain ⟨j,_,rfl⟩:=hc;exact zw4 s j
 unfold escA;rw [List.all_cons,Bool.and_eq_true];refine ⟨rfl,?_⟩;rw [List.all_flatMap,List.all_eq_true]
 exact fun c hc=>vrn (hb c (List.mem_of_mem_take hc))
theorem yh0 (c:Int):(escB c).length<=2:=by unfold escB;cases decide (c=34)||decide (c=92)<;>simp
theorem vmy:∀ l:List Int,(l.flatMap escB).length<=2*l.length
 | []=>by simp
 | c::l=>by
  have:=vmy l
  have:=yh0 c
  simp only [List.flatMap_cons,List.length_append,List.length_cons];omega
theorem y5j (s:ByteArray) (i:Nat):1<=(escA s i).length/\(escA s i).length<=1+2*s.size:=by
 unfold escA
 have:=vmy ((xom s).take i)
 have h2:((xom s).take i).length<=s.size:=by rw [List.length_take,xe3];omega
 simp only [List.length_cons];omega
inductive Ex where
 | mk (op n:Int) (unit name:ByteArray) (args:List Ex)
def Ex.op:Ex->Int | .mk o _ _ _ _=>o
def Ex.n:Ex->Int | .mk _ n _ _ _=>n
def Ex.unit:Ex->ByteArray | .mk _ _ u _ _=>u
def Ex.name:Ex->ByteArray | .mk _ _ _ s _=>s
def Ex.args:Ex->List Ex | .mk _ _ _ _ l=>l
def Ex.zero:Ex:=.mk 0 0 ⟨#[]⟩ ⟨#[]⟩ []
instance:Inhabited Ex:=⟨Ex.zero⟩
theorem Ex.ind {Q:Ex->Prop} (h:∀ x:Ex,(∀ y∈x.args,Q y)->Q x):∀ x,Q x
 | .mk o n u s l=>h _ (fun y _hy=>Ex.ind h y)
termination_by x=>SizeOf.sizeOf x
decreasing_by
 have:=List.sizeOf_lt_of_mem (show y∈l from _hy)
 simp only [Ex.mk.sizeOf_spec];omega
mutual
def Ex.cells:Ex->List Cell
 | .mk o n u s l=>[cI o,cI n,cS u,cS s,.sl 5 (Ex.zpk l)]
def Ex.zpk:List Ex->List (List Cell)
 | []=>[]
 | x::l=>Ex.cells x::Ex.zpk l
end
theorem Ex.ykg:∀ l:List Ex,Ex.zpk l=l.map Ex.cells
 | []=>by rw [Ex.zpk];rfl
 | x::l=>by rw [Ex.zpk,Ex.ykg l];rfl
abbrev exC (x:Ex):List Cell:=[cI x.op,cI x.n,cS x.unit,cS x.name,.sl 5 (x.args.map Ex.cells)]
theorem Ex.wzy (x:Ex):Ex.cells x=exC x:=by
 cases x with
 | mk o n u s l=>rw [Ex.cells,Ex.ykg];rfl
theorem getD_map' {α β:Type} [Inhabited α] (f:α->β) (d:β):∀(l:List α) (i:Nat),i<l.length->(l.map f).getD i d=f (l.getD i default)
 | [],_,h=>by simp at h
 | _::_,0,_=>rfl
 | _::l,i+1,h=>by simpa using getD_map' f d l i (by simpa using h)
theorem getD_map {α β:Type} [Inhabited α] {f:α->β} {d:β} {l:List α} {i:Nat} (h:i<l.length):(l.map f).getD i d=f (l.getD i default):=getD_map' f d l i h
attribute [go_sem] getD_map Ex.wzy
theorem wax {α:Type} [Inhabited α] {l:List α} {i:Nat} (h:i<l.length):l.getD i default∈l:=by
 have:l.getD i default=l[i]:=by simp [h]
 rw [this];exact List.getElem_mem h
theorem xp9 {α:Type} [Inhabited α] {l:List α} {i:Nat} (h:i<l.length):l.drop i=l.getD i default::l.drop (i+1):=by
 have:l.getD i default=l[i]:=by simp [h]
 rw [this];exact List.drop_eq_getElem_cons h
theorem x1q {α:Type} [Inhabited α] {l:List α} {i:Nat} (h:i<l.length):l.take (i+1)=l.take i++[l.getD i default]:=by
 have:l.getD i default=l[i]:=by simp [h]
 rw [this,List.take_add_one];simp [h]
inductive Ex.Sm:Ex->Prop
 | mk (x:Ex) (hl:x.args.length<=1073741824) (hu:x.unit.size<=1073741824) (hs:x.name.size<=1073741824) (h:∀ y∈x.args,Ex.Sm y):Ex.Sm x
theorem Ex.Sm.len {x:Ex} (h:x.Sm):x.args.length<=1073741824:=by cases h;assumption
theorem Ex.Sm.u {x:Ex} (h:x.Sm):x.unit.size<=1073741824:=by cases h;assumption
theorem Ex.Sm.s {x:Ex} (h:x.Sm):x.name.size<=1073741824:=by cases h;assumption
theorem Ex.Sm.arg {x:Ex} (h:x.Sm):∀ y∈x.args,y.Sm:=by cases h;assumption
def isWord (s:ByteArray):Bool:=seq s ⟨#[110,111,116]⟩||seq s ⟨#[105,102]⟩||seq s ⟨#[116,104,101,110]⟩||seq s ⟨#[101,108,115,101]⟩||seq s ⟨#[97,110,100]⟩||seq s ⟨#[111,114]⟩||seq s ⟨#[108,111,111,107]⟩||seq s ⟨#[109,105,110]⟩||seq s ⟨#[109,97,120]⟩||seq s ⟨#[105,110,116,111]⟩||seq s ⟨#[116,111]⟩||seq s ⟨#[97,115]⟩
def isNamed (s:ByteArray):Bool:=isName s&&!isWord s
def vcl (o:Int):ByteArray:=bif decide (o=6) then ⟨#[43]⟩ else bif decide (o=7) then ⟨#[45]⟩ else bif decide (o=8) then ⟨#[42]⟩ else bif decide (o=9) then ⟨#[47]⟩ else bif decide (o=12) then ⟨#[60]⟩ else bif decide (o=13) then ⟨#[61]⟩ else bif decide (o=14) then ⟨#[97,110,100]⟩ else bif decide (o=15) then ⟨#[111,114]⟩ else ⟨#[]⟩
def isOp (o:Int):Bool:=decide (o=6)||decide (o=7)||decide (o=8)||decide (o=9)||decide (o=12)||decide (o=13)||decide (o=14)||decide (o=15)
mutual
def Ex.cnt:Ex->Int->Int->Bool×Int
 | .mk _ _ _ _ l,n,lv=>bif decide (200<n+1)||decide (20<lv) then (false,n+1) else Ex.cntL l (n+1) (lv+1)
def Ex.cntL:List Ex->Int->Int->Bool×Int
 | [],n,_=>(true,n)
 | y::l,n,lv=>match Ex.cnt y n lv with
  | (false,m)=>(false,m)
  | (true,m)=>Ex.cntL l m lv
end
theorem Ex.yci (x:Ex) (n lv:Int):x.cnt n lv=bif decide (200<n+1)||decide (20<lv) then (false,n+1) else Ex.cntL x.args (n+1) (lv+1):=by cases x;rw [Ex.cnt];rfl
theorem Ex.vd8:∀(x:Ex) (n lv k:Int),x.cnt n lv=(true,k)->n<k/\k<=200:=by
 have hL:∀ l:List Ex,(∀ y∈l,∀(n lv k:Int),y.cnt n lv=(true,k)->n<k/\k<=200)->∀ n lv k:Int,n<=200->Ex.cntL l n lv=(true,k)->n<=k/\k<=200:=by
  intro l
  induction l with
  | nil=>intro _ n lv k hn h;rw [Ex.cntL] at h;cases h;omega
  | cons y l ih=>
   intro hy n lv k hn h;rw [Ex.cntL] at h;split at h
   . cases h
   . rename_i m hm;have h1:=hy y (by simp) _ _ _ hm;have h2:=ih (fun z hz=>hy z (by simp [hz])) _ _ _ h1.2 h;omega
 refine Ex.ind (fun x ih n lv k h=>?_);rw [Ex.yci] at h;by_cases h1:200<n+1
 . simp [h1] at h
 . by_cases h2:20<lv
   . simp [h2] at h
   . simp only [h1,h2,decide_false,Bool.or_self,cond_false] at h
     have:=hL x.args ih _ _ _ (by omega) h
     omega
def vz1 (x:Ex):Bool:=
 bif decide (x.op=0) then xbh x.unit&&decide (0<=x.n)&&decide (x.n<=1099511627776)&&decide (x.name.size=0)&&decide ((x.args.length:Int)=0) else
 bif decide (¬x.n=0)||decide (¬x.unit.size=0) then false else
 bif decide (x.op=1) then isNamed x.name&&decide ((x.args.length:Int)=0) else
 bif decide (x.op=2) then isNamed x.name&&decide ((x.args.length:Int)=1) else
 bif decide (x.op=3) then isNamed x.name&&decide (1<=(x.args.length:Int))&&decide ((x.args.length:Int)<=6) else
 bif decide (x.op=4) then decide (x.name.size=0)&&decide ((x.args.length:Int)=1) else
 bif decide (x.op=5) then decide (x.name.size=0)&&decide ((x.args.length:Int)=3) else
 bif decide (x.op=10)||decide (x.op=11) then decide (x.name.size=0)&&decide ((x.args.length:Int)=2) else
 isOp x.op&&decide (x.name.size=0)&&decide ((x.args.length:Int)=2)
mutual
def Ex.shaped:Ex->Bool
 | .mk o n u s l=>vz1 (.mk o n u s l)&&Ex.yvb l
def Ex.yvb:List Ex->Bool
 | []=>true
 | y::l=>Ex.shaped y&&Ex.yvb l
end
theorem Ex.v84:∀ l:List Ex,Ex.yvb l=l.all Ex.shaped
 | []=>by rw [Ex.yvb];rfl
 | y::l=>by rw [Ex.yvb,Ex.v84 l];rfl
theorem Ex.wef (x:Ex):x.shaped=(vz1 x&&x.args.all Ex.shaped):=by cases x;rw [Ex.shaped,Ex.v84];rfl
def wbe (x:Ex):Bool:=(x.cnt 0 1).1&&x.shaped
def idxF {α:Type} (p:α->Bool):List α->Int
 | []=>-1
 | x::l=>bif p x then 0 else bif decide (idxF p l = -1) then -1 else idxF p l+1
theorem vj7 {α:Type} (p:α->Bool):∀ l:List α,-1<=idxF p l
 | []=>by unfold idxF;omega
 | x::l=>by
  have:=vj7 p l
  unfold idxF
  cases p x with
  | true=>simp
  | false=>
   by_cases h:idxF p l = -1
   . simp [h]
   . simp [h];omega
theorem vb3 {α:Type} (p:α->Bool):∀ l:List α,decide (0<=idxF p l)=l.any p
 | []=>rfl
 | x::l=>by
  have h2:=vb3 p l;have h3:=vj7 p l;unfold idxF;rw [List.any_cons,<-h2]
  cases p x with
  | true=>simp
  | false=>
   by_cases h:idxF p l = -1
   . simp [h]
   . simp [h];omega
theorem we2 {α:Type} [Inhabited α] {p:α->Bool}:∀{l:List α} {i:Nat},i<=l.length->(∀ j,j<i->p (l.getD j default)=false)->(i=l.length->idxF p l = -1)/\(i<l.length->p (l.getD i default)=true->idxF p l=i)
 | [],i,hi,_=>by simp at hi;subst hi;exact ⟨fun _=>rfl,fun h=>by simp at h⟩
 | x::l,0,_,_=>⟨fun h=>by simp at h,fun _ h=>by unfold idxF;have:p x=true:=h;rw [this];rfl⟩
 | x::l,i+1,hi,hj=>by
  have h0:p x=false:=hj 0 (by omega);obtain ⟨h1,h2⟩:=we2 (l:=l) (i:=i) (by simpa using hi) (fun j hj'=>by simpa using hj (j+1) (by omega));unfold idxF;rw [h0];refine ⟨fun h=>?_,fun h hp=>?_⟩
  . rw [h1 (by simpa using h)];rfl
  . rw [h2 (by simpa using h) (by simpa using hp)]
    have:¬((i:Int) = -1):=by omega
    simp [this]
end Go.Hp.T
