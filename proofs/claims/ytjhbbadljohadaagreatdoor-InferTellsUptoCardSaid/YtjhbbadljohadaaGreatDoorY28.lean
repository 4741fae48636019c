/- The proof, part Y28: Ti, Ic, Im, Ie. -/
import Derived.Test.YtjhbbadljohadaaGreatDoorY13
import Derived.Test.YtjhbbadljohadaaGreatDoorY27
import Derived.Test.YtjhbbadljohadaaGreatDoorChecked
import Derived.Laws.Strings
namespace Go.Slot.T
open Go Go.RowKit Go.Slot Go.Hp
open Go.Proofs.Tryz (prog)
theorem w1 {k:TI->OR}:zb2 prog 1 k=k ⟨1,8,[Cell.raw Value.nilFunc],Sh.cell⟩:=zb5 (by kernel_rfl)
theorem m1:mkTI prog 1=some ⟨1,8,[Cell.raw Value.nilFunc],Sh.cell⟩:=by kernel_rfl
attribute [go_sem ↓] w1
attribute [go_sem] m1
theorem w2 {k:TI->OR}:zb2 prog 2 k=k ⟨1,8,[Cell.raw (Value.int IntKind.i64 0)],Sh.int IntKind.i64⟩:=zb5 (by kernel_rfl)
theorem m2:mkTI prog 2=some ⟨1,8,[Cell.raw (Value.int IntKind.i64 0)],Sh.int IntKind.i64⟩:=by kernel_rfl
attribute [go_sem ↓] w2
attribute [go_sem] m2
theorem u2:prog.underlying 2=some (TypeDesc.int IntKind.i64):=by kernel_rfl
attribute [go_sem] u2
theorem w3 {k:TI->OR}:zb2 prog 3 k=k ⟨1,8,[Cell.raw (Value.int IntKind.i64 0)],Sh.int IntKind.i64⟩:=zb5 (by kernel_rfl)
theorem m3:mkTI prog 3=some ⟨1,8,[Cell.raw (Value.int IntKind.i64 0)],Sh.int IntKind.i64⟩:=by kernel_rfl
attribute [go_sem ↓] w3
attribute [go_sem] m3
theorem u3:prog.underlying 3=some (TypeDesc.int IntKind.i64):=by kernel_rfl
attribute [go_sem] u3
theorem m4:mkTI prog 4=some ⟨1,1,[Cell.raw (Value.bool false)],Sh.bool⟩:=by kernel_rfl
attribute [go_sem] m4
theorem w5 {k:TI->OR}:zb2 prog 5 k=k ⟨1,1,[Cell.raw (Value.int IntKind.u8 0)],Sh.int IntKind.u8⟩:=zb5 (by kernel_rfl)
theorem m5:mkTI prog 5=some ⟨1,1,[Cell.raw (Value.int IntKind.u8 0)],Sh.int IntKind.u8⟩:=by kernel_rfl
attribute [go_sem ↓] w5
attribute [go_sem] m5
theorem u5:prog.underlying 5=some (TypeDesc.int IntKind.u8):=by kernel_rfl
attribute [go_sem] u5
theorem w8 {k:TI->OR}:zb2 prog 8 k=k ⟨4,24,[Cell.raw (Value.int IntKind.i64 0),Cell.raw (Value.int IntKind.i64 0),Cell.raw (Value.bool false),Cell.raw (Value.int IntKind.u8 0)],Sh.struct [(0,1,2),(1,1,3),(2,1,4),(3,1,6)]⟩:=zb5 (by kernel_rfl)
attribute [go_sem ↓] w8
theorem w9 {k:TI->OR}:zb2 prog 9 k=k ⟨1,16,[Cell.raw (Value.string ⟨⟨[]⟩⟩)],Sh.string⟩:=zb5 (by kernel_rfl)
theorem m9:mkTI prog 9=some ⟨1,16,[Cell.raw (Value.string ⟨⟨[]⟩⟩)],Sh.string⟩:=by kernel_rfl
attribute [go_sem ↓] w9
attribute [go_sem] m9
theorem w22 {k:TI->OR}:zb2 prog 22 k=k ⟨1,24,[Cell.zc],Sh.slice 24 5 72 none⟩:=zb5 (by kernel_rfl)
theorem m22:mkTI prog 22=some ⟨1,24,[Cell.zc],Sh.slice 24 5 72 none⟩:=by kernel_rfl
attribute [go_sem ↓] w22
attribute [go_sem] m22
theorem m24:mkTI prog 24=some ⟨5,72,[Cell.raw (Value.int IntKind.i64 0),Cell.raw (Value.int IntKind.i64 0),Cell.raw (Value.string ⟨⟨[]⟩⟩),Cell.raw (Value.string ⟨⟨[]⟩⟩),Cell.zc],Sh.struct [(0,1,3),(1,1,3),(2,1,9),(3,1,9),(4,1,22)]⟩:=by kernel_rfl
attribute [go_sem] m24
theorem w25 {k:TI->OR}:zb2 prog 25 k=k ⟨1,24,[Cell.zc],Sh.slice 38 7 64 none⟩:=zb5 (by kernel_rfl)
theorem m25:mkTI prog 25=some ⟨1,24,[Cell.zc],Sh.slice 38 7 64 none⟩:=by kernel_rfl
attribute [go_sem ↓] w25
attribute [go_sem] m25
theorem w26 {k:TI->OR}:zb2 prog 26 k=k ⟨1,24,[Cell.zc],Sh.slice 55 3 56 none⟩:=zb5 (by kernel_rfl)
theorem m26:mkTI prog 26=some ⟨1,24,[Cell.zc],Sh.slice 55 3 56 none⟩:=by kernel_rfl
attribute [go_sem ↓] w26
attribute [go_sem] m26
theorem m30:mkTI prog 30=some ⟨6,48,[Cell.raw (Value.int IntKind.i64 0),Cell.raw (Value.int IntKind.i64 0),Cell.raw (Value.int IntKind.i64 0),Cell.raw (Value.int IntKind.i64 0),Cell.raw (Value.int IntKind.i64 0),Cell.raw (Value.int IntKind.i64 0)],Sh.array 6 3 1⟩:=by kernel_rfl
attribute [go_sem] m30
theorem z30:zqy prog 30=some (SV.agg [HC.dat (Cell.raw (Value.int IntKind.i64 0)),HC.dat (Cell.raw (Value.int IntKind.i64 0)),HC.dat (Cell.raw (Value.int IntKind.i64 0)),HC.dat (Cell.raw (Value.int IntKind.i64 0)),HC.dat (Cell.raw (Value.int IntKind.i64 0)),HC.dat (Cell.raw (Value.int IntKind.i64 0))]):=by kernel_rfl
attribute [go_sem] z30
theorem w32 {k:TI->OR}:zb2 prog 32 k=k ⟨7,56,[Cell.raw (Value.bool false),Cell.raw (Value.int IntKind.i64 0),Cell.raw (Value.int IntKind.i64 0),Cell.raw (Value.int IntKind.i64 0),Cell.raw (Value.int IntKind.i64 0),Cell.raw (Value.int IntKind.i64 0),Cell.raw (Value.int IntKind.i64 0)],Sh.struct [(0,1,4),(1,6,30)]⟩:=zb5 (by kernel_rfl)
theorem m32:mkTI prog 32=some ⟨7,56,[Cell.raw (Value.bool false),Cell.raw (Value.int IntKind.i64 0),Cell.raw (Value.int IntKind.i64 0),Cell.raw (Value.int IntKind.i64 0),Cell.raw (Value.int IntKind.i64 0),Cell.raw (Value.int IntKind.i64 0),Cell.raw (Value.int IntKind.i64 0)],Sh.struct [(0,1,4),(1,6,30)]⟩:=by kernel_rfl
attribute [go_sem ↓] w32
attribute [go_sem] m32
theorem m33:mkTI prog 33=some ⟨1,8,[Cell.raw (Value.int IntKind.i64 0)],Sh.int IntKind.i64⟩:=by kernel_rfl
attribute [go_sem] m33
theorem m38:mkTI prog 38=some ⟨7,64,[Cell.raw (Value.string ⟨⟨[]⟩⟩),Cell.raw (Value.int IntKind.i64 0),Cell.raw (Value.int IntKind.i64 0),Cell.raw (Value.int IntKind.i64 0),Cell.raw (Value.int IntKind.i64 0),Cell.raw (Value.int IntKind.i64 0),Cell.raw (Value.int IntKind.i64 0)],Sh.struct [(0,1,9),(1,6,30)]⟩:=by kernel_rfl
attribute [go_sem] m38
theorem w43 {k:TI->OR}:zb2 prog 43 k=k ⟨1,24,[Cell.zc],Sh.slice 3 1 8 (some IntKind.i64)⟩:=zb5 (by kernel_rfl)
theorem m43:mkTI prog 43=some ⟨1,24,[Cell.zc],Sh.slice 3 1 8 (some IntKind.i64)⟩:=by kernel_rfl
attribute [go_sem ↓] w43
attribute [go_sem] m43
theorem w45 {k:TI->OR}:zb2 prog 45 k=k ⟨2,32,[Cell.raw (Value.int IntKind.i64 0),Cell.zc],Sh.struct [(0,1,3),(1,1,43)]⟩:=zb5 (by kernel_rfl)
theorem m45:mkTI prog 45=some ⟨2,32,[Cell.raw (Value.int IntKind.i64 0),Cell.zc],Sh.struct [(0,1,3),(1,1,43)]⟩:=by kernel_rfl
attribute [go_sem ↓] w45
attribute [go_sem] m45
theorem w47 {k:TI->OR}:zb2 prog 47 k=k ⟨4,64,[Cell.raw (Value.int IntKind.i64 0),Cell.zc,Cell.raw (Value.int IntKind.i64 0),Cell.zc],Sh.struct [(0,2,45),(2,2,45)]⟩:=zb5 (by kernel_rfl)
theorem m47:mkTI prog 47=some ⟨4,64,[Cell.raw (Value.int IntKind.i64 0),Cell.zc,Cell.raw (Value.int IntKind.i64 0),Cell.zc],Sh.struct [(0,2,45),(2,2,45)]⟩:=by kernel_rfl
attribute [go_sem ↓] w47
attribute [go_sem] m47
theorem m49:mkTI prog 49=some ⟨10,112,[Cell.raw (Value.int IntKind.i64 0),Cell.raw (Value.int IntKind.i64 0),Cell.raw (Value.int IntKind.i64 0),Cell.raw (Value.int IntKind.i64 0),Cell.raw (Value.int IntKind.i64 0),Cell.raw (Value.int IntKind.i64 0),Cell.raw (Value.int IntKind.i64 0),Cell.zc,Cell.raw (Value.int IntKind.i64 0),Cell.zc],Sh.struct [(0,6,30),(6,4,47)]⟩:=by kernel_rfl
attribute [go_sem] m49
theorem w53 {k:TI->OR}:zb2 prog 53 k=k ⟨1,24,[Cell.zc],Sh.slice 114 2 16 none⟩:=zb5 (by kernel_rfl)
theorem m53:mkTI prog 53=some ⟨1,24,[Cell.zc],Sh.slice 114 2 16 none⟩:=by kernel_rfl
attribute [go_sem ↓] w53
attribute [go_sem] m53
theorem m55:mkTI prog 55=some ⟨3,56,[Cell.raw (Value.string ⟨⟨[]⟩⟩),Cell.raw (Value.string ⟨⟨[]⟩⟩),Cell.zc],Sh.struct [(0,1,9),(1,1,9),(2,1,53)]⟩:=by kernel_rfl
attribute [go_sem] m55
theorem m61:mkTI prog 61=some ⟨1,8,[Cell.raw (Value.map none)],Sh.map 9 30⟩:=by kernel_rfl
attribute [go_sem] m61
theorem m63:mkTI prog 63=some ⟨2,16,[Cell.raw (Value.map none),Cell.raw (Value.map none)],Sh.struct [(0,1,61),(1,1,61)]⟩:=by kernel_rfl
attribute [go_sem] m63
theorem w71 {k:TI->OR}:zb2 prog 71 k=k ⟨1,24,[Cell.zc],Sh.slice 76 2 24 none⟩:=zb5 (by kernel_rfl)
theorem m71:mkTI prog 71=some ⟨1,24,[Cell.zc],Sh.slice 76 2 24 none⟩:=by kernel_rfl
attribute [go_sem ↓] w71
attribute [go_sem] m71
theorem m76:mkTI prog 76=some ⟨2,24,[Cell.raw (Value.string ⟨⟨[]⟩⟩),Cell.raw (Value.int IntKind.i64 0)],Sh.struct [(0,1,9),(1,1,3)]⟩:=by kernel_rfl
attribute [go_sem] m76
theorem w89 {k:TI->OR}:zb2 prog 89 k=k ⟨1,24,[Cell.zc],Sh.slice 32 7 56 none⟩:=zb5 (by kernel_rfl)
theorem m89:mkTI prog 89=some ⟨1,24,[Cell.zc],Sh.slice 32 7 56 none⟩:=by kernel_rfl
attribute [go_sem ↓] w89
attribute [go_sem] m89
theorem m114:mkTI prog 114=some ⟨2,16,[Cell.raw (Value.int IntKind.i64 0),Cell.raw (Value.int IntKind.i64 0)],Sh.struct [(0,1,3),(1,1,3)]⟩:=by kernel_rfl
attribute [go_sem] m114
theorem w122 {k:TI->OR}:zb2 prog 122 k=k ⟨1,24,[Cell.zc],Sh.slice 9 1 16 none⟩:=zb5 (by kernel_rfl)
theorem m122:mkTI prog 122=some ⟨1,24,[Cell.zc],Sh.slice 9 1 16 none⟩:=by kernel_rfl
attribute [go_sem ↓] w122
attribute [go_sem] m122
theorem w129 {k:TI->OR}:zb2 prog 129 k=k ⟨1,8,[Cell.raw (Value.int IntKind.u64 0)],Sh.int IntKind.u64⟩:=zb5 (by kernel_rfl)
theorem m129:mkTI prog 129=some ⟨1,8,[Cell.raw (Value.int IntKind.u64 0)],Sh.int IntKind.u64⟩:=by kernel_rfl
attribute [go_sem ↓] w129
attribute [go_sem] m129
theorem w146 {k:TI->OR}:zb2 prog 146 k=k ⟨1,24,[Cell.zc],Sh.slice 150 2 24 none⟩:=zb5 (by kernel_rfl)
theorem m146:mkTI prog 146=some ⟨1,24,[Cell.zc],Sh.slice 150 2 24 none⟩:=by kernel_rfl
attribute [go_sem ↓] w146
attribute [go_sem] m146
theorem m150:mkTI prog 150=some ⟨2,24,[Cell.raw (Value.string ⟨⟨[]⟩⟩),Cell.raw (Value.int IntKind.i64 0)],Sh.struct [(0,1,9),(1,1,3)]⟩:=by kernel_rfl
attribute [go_sem] m150
theorem m175:mkTI prog 175=some ⟨1,8,[Cell.raw (Value.pointer none)],Sh.cell⟩:=by kernel_rfl
attribute [go_sem] m175
theorem yod:zmh prog 175=some 178:=by kernel_rfl
attribute [go_sem] yod
theorem u175:prog.underlying 175=some (TypeDesc.pointer 178):=by kernel_rfl
attribute [go_sem] u175
theorem m176:mkTI prog 176=some ⟨1,24,[Cell.zc],Sh.slice 5 1 1 (some IntKind.u8)⟩:=by kernel_rfl
attribute [go_sem] m176
theorem m178:mkTI prog 178=some ⟨2,32,[Cell.raw (Value.pointer none),Cell.zc],Sh.struct [(0,1,175),(1,1,176)]⟩:=by kernel_rfl
attribute [go_sem] m178
theorem yow:zmh prog 194=some 5:=by kernel_rfl
attribute [go_sem] yow
theorem u203:prog.underlying 203=some TypeDesc.unsafePointer:=by kernel_rfl
attribute [go_sem] u203
theorem yoo:prog.info? 178=some (yku prog 178):=by kernel_rfl
attribute [go_sem] yoo
theorem yol:((yku prog 178).size != 0)=true:=by kernel_rfl
attribute [go_sem] yol
theorem e0:za5 prog 0=false:=by kernel_rfl
attribute [go_sem] e0
theorem e1:za5 prog 1=false:=by kernel_rfl
attribute [go_sem] e1
theorem e2:za5 prog 2=false:=by kernel_rfl
attribute [go_sem] e2
theorem e3:za5 prog 3=false:=by kernel_rfl
attribute [go_sem] e3
theorem e4:za5 prog 4=false:=by kernel_rfl
attribute [go_sem] e4
theorem e5:za5 prog 5=false:=by kernel_rfl
attribute [go_sem] e5
theorem e6:za5 prog 6=false:=by kernel_rfl
attribute [go_sem] e6
theorem e7:za5 prog 7=false:=by kernel_rfl
attribute [go_sem] e7
theorem e8:za5 prog 8=false:=by kernel_rfl
attribute [go_sem] e8
theorem e9:za5 prog 9=false:=by kernel_rfl
attribute [go_sem] e9
theorem e10:za5 prog 10=false:=by kernel_rfl
attribute [go_sem] e10
theorem e11:za5 prog 11=false:=by kernel_rfl
attribute [go_sem] e11
theorem e13:za5 prog 13=false:=by kernel_rfl
attribute [go_sem] e13
theorem e14:za5 prog 14=false:=by kernel_rfl
attribute [go_sem] e14
theorem e17:za5 prog 17=false:=by kernel_rfl
attribute [go_sem] e17
theorem e18:za5 prog 18=false:=by kernel_rfl
attribute [go_sem] e18
theorem e19:za5 prog 19=false:=by kernel_rfl
attribute [go_sem] e19
theorem e20:za5 prog 20=false:=by kernel_rfl
attribute [go_sem] e20
theorem e21:za5 prog 21=false:=by kernel_rfl
attribute [go_sem] e21
theorem e22:za5 prog 22=false:=by kernel_rfl
attribute [go_sem] e22
theorem e23:za5 prog 23=false:=by kernel_rfl
attribute [go_sem] e23
theorem e24:za5 prog 24=false:=by kernel_rfl
attribute [go_sem] e24
theorem e25:za5 prog 25=false:=by kernel_rfl
attribute [go_sem] e25
theorem e26:za5 prog 26=false:=by kernel_rfl
attribute [go_sem] e26
theorem e27:za5 prog 27=false:=by kernel_rfl
attribute [go_sem] e27
theorem e28:za5 prog 28=false:=by kernel_rfl
attribute [go_sem] e28
theorem e29:za5 prog 29=false:=by kernel_rfl
attribute [go_sem] e29
theorem e30:za5 prog 30=false:=by kernel_rfl
attribute [go_sem] e30
theorem e31:za5 prog 31=false:=by kernel_rfl
attribute [go_sem] e31
theorem e32:za5 prog 32=false:=by kernel_rfl
attribute [go_sem] e32
theorem e33:za5 prog 33=false:=by kernel_rfl
attribute [go_sem] e33
theorem e34:za5 prog 34=false:=by kernel_rfl
attribute [go_sem] e34
theorem e35:za5 prog 35=false:=by kernel_rfl
attribute [go_sem] e35
theorem e36:za5 prog 36=false:=by kernel_rfl
attribute [go_sem] e36
theorem e37:za5 prog 37=false:=by kernel_rfl
attribute [go_sem] e37
theorem e38:za5 prog 38=false:=by kernel_rfl
attribute [go_sem] e38
theorem e39:za5 prog 39=false:=by kernel_rfl
attribute [go_sem] e39
theorem e40:za5 prog 40=false:=by kernel_rfl
attribute [go_sem] e40
theorem e41:za5 prog 41=false:=by kernel_rfl
attribute [go_sem] e41
theorem e42:za5 prog 42=false:=by kernel_rfl
attribute [go_sem] e42
theorem e43:za5 prog 43=false:=by kernel_rfl
attribute [go_sem] e43
theorem e44:za5 prog 44=false:=by kernel_rfl
attribute [go_sem] e44
theorem e45:za5 prog 45=false:=by kernel_rfl
attribute [go_sem] e45
theorem e46:za5 prog 46=false:=by kernel_rfl
attribute [go_sem] e46
theorem e47:za5 prog 47=false:=by kernel_rfl
attribute [go_sem] e47
theorem e48:za5 prog 48=false:=by kernel_rfl
attribute [go_sem] e48
theorem e49:za5 prog 49=false:=by kernel_rfl
attribute [go_sem] e49
theorem e50:za5 prog 50=false:=by kernel_rfl
attribute [go_sem] e50
theorem e51:za5 prog 51=false:=by kernel_rfl
attribute [go_sem] e51
theorem e53:za5 prog 53=false:=by kernel_rfl
attribute [go_sem] e53
theorem e54:za5 prog 54=false:=by kernel_rfl
attribute [go_sem] e54
theorem e55:za5 prog 55=false:=by kernel_rfl
attribute [go_sem] e55
theorem e56:za5 prog 56=false:=by kernel_rfl
attribute [go_sem] e56
theorem e57:za5 prog 57=false:=by kernel_rfl
attribute [go_sem] e57
theorem e58:za5 prog 58=false:=by kernel_rfl
attribute [go_sem] e58
theorem e59:za5 prog 59=false:=by kernel_rfl
attribute [go_sem] e59
theorem e60:za5 prog 60=false:=by kernel_rfl
attribute [go_sem] e60
theorem e61:za5 prog 61=false:=by kernel_rfl
attribute [go_sem] e61
theorem e62:za5 prog 62=false:=by kernel_rfl
attribute [go_sem] e62
theorem e65:za5 prog 65=false:=by kernel_rfl
attribute [go_sem] e65
theorem e66:za5 prog 66=false:=by kernel_rfl
attribute [go_sem] e66
theorem e67:za5 prog 67=false:=by kernel_rfl
attribute [go_sem] e67
theorem e68:za5 prog 68=false:=by kernel_rfl
attribute [go_sem] e68
theorem e70:za5 prog 70=false:=by kernel_rfl
attribute [go_sem] e70
theorem e71:za5 prog 71=false:=by kernel_rfl
attribute [go_sem] e71
theorem e72:za5 prog 72=false:=by kernel_rfl
attribute [go_sem] e72
theorem e73:za5 prog 73=false:=by kernel_rfl
attribute [go_sem] e73
theorem e74:za5 prog 74=false:=by kernel_rfl
attribute [go_sem] e74
theorem e75:za5 prog 75=false:=by kernel_rfl
attribute [go_sem] e75
theorem e76:za5 prog 76=false:=by kernel_rfl
attribute [go_sem] e76
theorem e77:za5 prog 77=false:=by kernel_rfl
attribute [go_sem] e77
theorem e78:za5 prog 78=false:=by kernel_rfl
attribute [go_sem] e78
theorem e79:za5 prog 79=false:=by kernel_rfl
attribute [go_sem] e79
theorem e80:za5 prog 80=false:=by kernel_rfl
attribute [go_sem] e80
theorem e81:za5 prog 81=false:=by kernel_rfl
attribute [go_sem] e81
theorem e82:za5 prog 82=false:=by kernel_rfl
attribute [go_sem] e82
theorem e83:za5 prog 83=false:=by kernel_rfl
attribute [go_sem] e83
theorem e84:za5 prog 84=false:=by kernel_rfl
attribute [go_sem] e84
theorem e85:za5 prog 85=false:=by kernel_rfl
attribute [go_sem] e85
theorem e86:za5 prog 86=false:=by kernel_rfl
attribute [go_sem] e86
theorem e87:za5 prog 87=false:=by kernel_rfl
attribute [go_sem] e87
theorem e88:za5 prog 88=false:=by kernel_rfl
attribute [go_sem] e88
theorem e90:za5 prog 90=false:=by kernel_rfl
attribute [go_sem] e90
theorem e91:za5 prog 91=false:=by kernel_rfl
attribute [go_sem] e91
theorem e92:za5 prog 92=false:=by kernel_rfl
attribute [go_sem] e92
theorem e93:za5 prog 93=false:=by kernel_rfl
attribute [go_sem] e93
theorem e97:za5 prog 97=false:=by kernel_rfl
attribute [go_sem] e97
theorem e98:za5 prog 98=false:=by kernel_rfl
attribute [go_sem] e98
theorem e99:za5 prog 99=false:=by kernel_rfl
attribute [go_sem] e99
theorem e100:za5 prog 100=false:=by kernel_rfl
attribute [go_sem] e100
theorem e103:za5 prog 103=false:=by kernel_rfl
attribute [go_sem] e103
theorem e105:za5 prog 105=false:=by kernel_rfl
attribute [go_sem] e105
theorem e106:za5 prog 106=false:=by kernel_rfl
attribute [go_sem] e106
theorem e107:za5 prog 107=false:=by kernel_rfl
attribute [go_sem] e107
theorem e108:za5 prog 108=false:=by kernel_rfl
attribute [go_sem] e108
theorem e109:za5 prog 109=false:=by kernel_rfl
attribute [go_sem] e109
theorem e111:za5 prog 111=false:=by kernel_rfl
attribute [go_sem] e111
theorem e112:za5 prog 112=false:=by kernel_rfl
attribute [go_sem] e112
theorem e114:za5 prog 114=false:=by kernel_rfl
attribute [go_sem] e114
theorem e115:za5 prog 115=false:=by kernel_rfl
attribute [go_sem] e115
theorem e116:za5 prog 116=false:=by kernel_rfl
attribute [go_sem] e116
theorem e117:za5 prog 117=false:=by kernel_rfl
attribute [go_sem] e117
theorem e127:za5 prog 127=false:=by kernel_rfl
attribute [go_sem] e127
theorem e128:za5 prog 128=false:=by kernel_rfl
attribute [go_sem] e128
theorem e129:za5 prog 129=false:=by kernel_rfl
attribute [go_sem] e129
theorem e132:za5 prog 132=false:=by kernel_rfl
attribute [go_sem] e132
theorem e133:za5 prog 133=false:=by kernel_rfl
attribute [go_sem] e133
theorem e134:za5 prog 134=false:=by kernel_rfl
attribute [go_sem] e134
theorem e135:za5 prog 135=false:=by kernel_rfl
attribute [go_sem] e135
theorem e136:za5 prog 136=false:=by kernel_rfl
attribute [go_sem] e136
theorem e137:za5 prog 137=false:=by kernel_rfl
attribute [go_sem] e137
theorem e138:za5 prog 138=false:=by kernel_rfl
attribute [go_sem] e138
theorem e139:za5 prog 139=false:=by kernel_rfl
attribute [go_sem] e139
theorem e140:za5 prog 140=false:=by kernel_rfl
attribute [go_sem] e140
theorem e141:za5 prog 141=false:=by kernel_rfl
attribute [go_sem] e141
theorem e142:za5 prog 142=false:=by kernel_rfl
attribute [go_sem] e142
theorem e157:za5 prog 157=false:=by kernel_rfl
attribute [go_sem] e157
theorem e158:za5 prog 158=false:=by kernel_rfl
attribute [go_sem] e158
theorem e159:za5 prog 159=false:=by kernel_rfl
attribute [go_sem] e159
theorem e160:za5 prog 160=false:=by kernel_rfl
attribute [go_sem] e160
theorem e168:za5 prog 168=false:=by kernel_rfl
attribute [go_sem] e168
theorem e180:za5 prog 180=true:=by kernel_rfl
attribute [go_sem] e180
theorem mixed:prog.follows .mixedOrders=true:=by kernel_rfl
theorem z1b {k:Bool->Prop}:yi2 prog k=k true:=propext ⟨fun h=>h.2,fun h=>⟨mixed,h⟩⟩
theorem zw0 {k:Bool->Prop}:z4c prog k=k true:=propext ⟨fun h=>h.2,fun h=>⟨mixed,h⟩⟩
attribute [go_sem] z1b zw0
end Go.Slot.T

namespace Go.Hp
open Go Go.RowKit Go.Slot
variable {P:Program} {Γ:List (Nat×List Cell)} {e:List SB} {G:List (Nat×List GhH)}
theorem z3p {p:Prop} [Decidable p] {X Y:Bool->Prop} (hx:p->decide p=true->X true) (hy:¬p->decide p=false->Y true):zcq (decide p) true X Y:=⟨fun h=>hx (of_decide_eq_true h) h,fun h=>hy (of_decide_eq_false h) h⟩
theorem yhl {p:Prop} [Decidable p] {X Y:Bool->Prop} (hx:¬p->decide p=false->X true) (hy:p->decide p=true->Y true):zcq (decide p) false X Y:=⟨fun h=>hx (of_decide_eq_false h) h,fun h=>hy (of_decide_eq_true h) h⟩
theorem ykk {c:Bool} {X Y:Bool->Prop} (hx:c=true->X true) (hy:c=false->Y true):zcq c true X Y:=⟨hx,hy⟩
theorem yjy {c:Bool} {X Y:Bool->Prop} (hx:c=false->X true) (hy:c=true->Y true):zcq c false X Y:=⟨hx,hy⟩
theorem zfv {p:Prop} [Decidable p] {X Y:Bool->Prop} (hx:p->decide p=true->X true) (hy:¬p->decide p=false->Y true):zk6 (decide p) X Y:=⟨fun h=>hx (of_decide_eq_true h) h,fun h=>hy (of_decide_eq_false h) h⟩
theorem yfb {c:Bool} {X Y:Bool->Prop} (hx:c=true->X true) (hy:c=false->Y true):zk6 c X Y:=⟨hx,hy⟩
theorem yg5 {c:Bool} {X Y:Bool->Prop} (hx:c=false->X true) (hy:c=true->Y true):zcq (!c) true X Y:=⟨fun h=>hx (by simpa using h),fun h=>hy (by simpa using h)⟩
theorem yh1 {c:Bool} {X Y:Bool->Prop} (hx:c=true->X true) (hy:c=false->Y true):zcq (!c) false X Y:=⟨fun h=>hx (by simpa using h),fun h=>hy (by simpa using h)⟩
theorem ygh {c:Bool} {X Y:Bool->Prop} (hx:c=false->X true) (hy:c=true->Y true):zk6 (!c) X Y:=⟨fun h=>hx (by simpa using h),fun h=>hy (by simpa using h)⟩
theorem hg {p q:Prop} (k:q) (h:p=q:=by conv=>lhs;simp (maxSteps:=2000000) (disch:=omega) only [go_sem,Nat.reduceAdd,Nat.reduceSub,Nat.reduceMul,Int.reduceToNat,Nat.reduceEqDiff,Nat.reduceBEq,Nat.reduceBneDiff,Nat.reduceLT,Int.reduceEq,Int.reduceLT,Int.reduceLE,Int.reduceNeg,Int.reduceAdd,Int.reduceSub,Int.reduceMul]):p:=Eq.mpr h k
theorem hgS {p q:Prop} (k:q) (h:p=q:=by conv=>lhs;simp (maxSteps:=2000000) (disch:=omega) only [go_sem,Nat.reduceAdd,Nat.reduceSub,Nat.reduceMul,Int.reduceToNat,Nat.reduceEqDiff,Nat.reduceBEq,Nat.reduceBneDiff,Nat.reduceLT,Int.reduceEq,Int.reduceLT,Int.reduceLE,Int.reduceNeg,Int.reduceAdd,Int.reduceSub,Int.reduceMul, *]):p:=Eq.mpr h k
theorem hgR {p q:Prop} (k:q) (h:p=q:=by conv=>lhs;simp (maxSteps:=2000000) (disch:=omega) only [go_sem,Nat.reduceAdd,Nat.reduceSub,Nat.reduceMul,Int.reduceToNat,Nat.reduceEqDiff,Nat.reduceBEq,Nat.reduceBneDiff,Nat.reduceLT,Int.reduceEq,Int.reduceLT,Int.reduceLE,Int.reduceNeg,Int.reduceAdd,Int.reduceSub,Int.reduceMul,List.replicate]):p:=Eq.mpr h k
theorem hfk {p q r:Prop} (k:q) (l:r) (h:q->r->p:=by with_reducible first | exact fun a b=>z3p a b | exact fun a b=>yhl a b | exact fun a b=>yg5 a b | exact fun a b=>yh1 a b | exact fun a b=>ykk a b | exact fun a b=>yjy a b | exact fun a b=>zfv a b | exact fun a b=>ygh a b | exact fun a b=>yfb a b):p:=h k l
theorem hik {ops:List Oper} {acc:List HR} {k:Bool->Prop} (hk:k true) (h:zfd ops acc=true:=by kernel_rfl):z93 ops acc k:=⟨h,hk⟩
theorem svl {a b:List SV} (h:zhy a b:=by repeat' first | exact .nil | refine .cons (by first | exact .refl _ | exact .any _) ?_):zhy a b:=h
theorem RLe.ofEq {x y:AV} (h:x=y):RLe x y:=h▸.one (.refl _)
def swL (i j:Nat) (η:List SB):List SB:=(List.range η.length).map fun k=>swSB i j (gB η (sw i j k))
theorem ym7 {i j k n:Nat} (hi:i<n) (hj:j<n) (hk:k<n):sw i j k<n:=by unfold sw;split<;>(try split)<;>omega
theorem StH.yic {σ:List SV} {η:List SB} {i j:Nat} (hi:e.length<=i) (hj:e.length<=j) (hil:i<η.length) (hjl:j<η.length):StH Γ e σ η (σ.map (swSV i j)) (swL i j η):=by
 refine StH.swap hi hj hil hjl (fun b x hb=>.inl ?_) (by simp [swL])
 have hbl:b<η.length:=(List.getElem?_eq_some_iff.1 hb).1
 unfold swL
 rw [List.getElem?_map,List.getElem?_range (ym7 hil hjl hbl)]
 simp only [Option.map_some,znb]
 unfold gB
 rw [hb];rfl
def zur (m:Nat) (σ:List SV) (η:List SB):Bool:=(σ.all fun x=>(zg7 x).all fun b=>Nat.blt b m)&&((η.take m).all fun x=>(zk7 x).all fun b=>Nat.blt b m)
theorem StH.cutB {σ:List SV} {η:List SB} (m:Nat) (hm:e.length<=m) (h:zur m σ η=true):StH Γ e σ η σ (η.take m):=by
 unfold zur at h
 rw [Bool.and_eq_true,List.all_eq_true,List.all_eq_true] at h
 refine StH.cut hm (fun i x hx b hb=>?_) (fun i x hi hx=>.inr fun b hb=>?_)
 · have:=h.1 x (List.mem_of_getElem? hx)
   rw [List.all_eq_true] at this
   simpa using this b hb
 · have:=h.2 x (List.mem_of_getElem? (by rw [List.getElem?_take_of_lt hi];exact hx))
   rw [List.all_eq_true] at this
   simpa using this b hb
theorem StH.back {σ σ':List SV} {η η':List SB} (ks:List Nat) (i j m:Nat) (hi:Nat.ble e.length i=true) (hj:Nat.ble e.length j=true) (hm:Nat.ble e.length m=true) (hil:Nat.blt i η.length=true) (hjl:Nat.blt j η.length=true) (h:zur m ((zeo ks 0 σ).map (swSV i j)) (swL i j η)=true)
 (hk:StH Γ e ((zeo ks 0 σ).map (swSV i j)) ((swL i j η).take m) σ' η'):StH Γ e σ η σ' η':=
 StH.trans (StH.only ks) (StH.trans (StH.yic (by simpa using hi) (by simpa using hj) (by simpa using hil) (by simpa using hjl)) (StH.trans (StH.cutB m (by simpa using hm) h) hk))
theorem StH.same {σ:List SV} {η:List SB} {σ':List SV} {η':List SB} (h:zhy σ σ') (hη:η=η'):StH Γ e σ η σ' η':=hη▸StH.z3m h
theorem StH.done {σ σ':List SV} {η η':List SB} (m:Nat) (hm:Nat.ble e.length m=true) (h:zur m σ η=true) (hσ:σ=σ') (hη:η.take m=η'):StH Γ e σ η σ' η':=
 hσ▸hη▸StH.cutB m (by simpa using hm) h
theorem zv2.of {φ:List Nat} {η ηs:List SB} (h:φ.map (fun j=>η[j]?)=ηs.map (fun x=>some (rnSB (atR φ η.length) x))):zv2 φ η ηs:=by
 have hl:ηs.length=φ.length:=by
  have:=congrArg List.length h
  simpa using this.symm
 refine ⟨hl,fun i x hx=>?_⟩
 have hi:i<ηs.length:=(List.getElem?_eq_some_iff.1 hx).1
 refine ⟨φ[i]'(by omega),List.getElem?_eq_getElem _,?_⟩
 have h1:=congrArg (fun l=>l[i]?) h
 simp only [List.getElem?_map,hx,Option.map_some] at h1
 rw [List.getElem?_eq_getElem (by omega)] at h1
 simpa using h1
theorem zaa.at (φ:List Nat) {f:FuncId} {η ηs ηs':List SB} {args:List SV} {res:SV} (h:zaa Γ P f ηs args ηs' res) (hn:φ.Nodup) (hb:(φ.all fun j=>Nat.blt j η.length)=true)
 (hp:φ.map (fun j=>η[j]?)=ηs.map (fun x=>some (rnSB (atR φ η.length) x))) (hlen:Nat.ble φ.length ηs'.length=true):zaa Γ P f η (args.map (zk2 (atR φ η.length))) (putR φ η ηs') (rnSV (atR φ η.length) res):=
 zaa.frame hn (fun j hj=>by simpa using List.all_eq_true.1 hb j hj) (zv2.of hp) (by simpa using hlen) h
theorem ze3 (φ:List Nat) {f:FuncId} {η ηs ηs':List SB} {args l:List SV} {res:SV} {K:Bool->List SB->SV->Prop} (h:zaa Γ P f ηs args ηs' res) (hl:args.map (zk2 (atR φ η.length))=l) (hn:φ.Nodup) (hb:(φ.all fun j=>Nat.blt j η.length)=true)
 (hp:φ.map (fun j=>η[j]?)=ηs.map (fun x=>some (rnSB (atR φ η.length) x))) (hlen:Nat.ble φ.length ηs'.length=true) (hk:K true (putR φ η ηs') (rnSV (atR φ η.length) res)):zts Γ P f η l K:=
 hl▸zhr (zaa.at φ h hn hb hp hlen) hk
theorem zod {a b:ByteArray}:seq a b=decide (a=b):=by
 unfold seq
 rw [ByteArray.toList_eq,ByteArray.toList_eq]
 by_cases h:a=b
 · rw [h];simp
 · rw [decide_eq_false h]
   have:a.data.toList≠b.data.toList:=fun he=>h (ByteArray.ext (Array.toList_inj.1 he))
   simpa using this
theorem yh7 {s:ByteArray}:seq s ⟨#[]⟩=decide (s.size=0):=by
 rw [zod]
 refine decide_eq_decide.2 ⟨fun h=>by rw [h];rfl,fun h=>ByteArray.ext (Array.eq_empty_of_size_eq_zero h)⟩
theorem w8 {n:Int} (h:0<=n/\n<=255):IntKind.u8.wrap n=n:=by rw [IntKind.wrap_u8];omega
attribute [go_sem] w8
theorem z23 {n:Nat}:((n:Int)-1).toNat=n-1:=by omega
theorem z0b {n:Nat}:((n:Int)+1).toNat=n+1:=by omega
attribute [go_sem] z23 z0b
theorem za2 {p:Prop} [Decidable p]:(!decide p)=decide (¬p):=by by_cases h:p<;>simp [h]
theorem yoz {σ:List SV} {t:Nat}:gt (σ.map vw) t=vw (gtS σ t):=z7y t
attribute [go_sem] yoz z2k valB elemAt
attribute [go_sem] yh7 za2 List.size_toArray List.length_map List.getD_cons_zero List.getD_cons_succ
attribute [go_sem] zzo zq1 zwz eqOf litH zhx zg4 zsk usdH usH zzh zxc zy1 z20 eqL
attribute [go_sem] putR atR rnSB rnHC zk2 rnSV List.zip_cons_cons List.zip_nil_left List.zip_nil_right List.drop_succ_cons
attribute [go_sem] swSV zl6 swHC swSB sw List.map_nil
end Go.Hp

namespace Go.Hp.T
open Go Go.RowKit Go.Slot Go.Hp
set_option maxRecDepth 10000
theorem toD {Γ:List (Nat×List Cell)} {P:Program} {f:FuncId} {args:List AV} {res:AV} (h:za1 P f args res):CallsD Γ P f args res:=Hp.za1.d h
abbrev cI (n:Int):Cell:=.raw (.int .i64 n)
abbrev c8 (n:Int):Cell:=.raw (.int .u8 n)
abbrev cS (s:ByteArray):Cell:=.raw (.string s)
abbrev cB (b:Bool):Cell:=.raw (.bool b)
abbrev fN (f:FuncId):AV:=.one (.raw (.func (.func f) #[] #[]))
def zgv (s:ByteArray):List Int:=(List.range s.size).map (zab s)
theorem zev (s:ByteArray):(zgv s).length=s.size:=by simp [zgv]
theorem zm1 (s:ByteArray) (i:Nat) (h:i<s.size):(zgv s)[i]? = some (zab s i):=by simp [zgv,h]
def zgo (p:Int->Bool) (s:ByteArray):Nat:=((zgv s).takeWhile p).length
theorem zkc {α:Type} (p:α->Bool):∀(l:List α) (n:Nat),n<=l.length->(∀ j x,j<n->l[j]? = some x->p x=true)->(n=l.length∨∃ x,l[n]? = some x/\p x=false)->(l.takeWhile p).length=n
 | [],n,hn,_,_=>by simp at hn;simp [hn]
 | a::l,0,_,_,h=>by
  rcases h with h | ⟨x,hx,hp⟩
  · simp at h
  · simp at hx;subst hx;simp [List.takeWhile,hp]
 | a::l,n+1,hn,hj,h=>by
  have ha:p a=true:=hj 0 a (by omega) rfl
  rw [List.takeWhile_cons_of_pos ha,List.length_cons,zkc p l n (by simpa using hn) (fun j x h1 h2=>hj (j+1) x (by omega) (by simpa using h2)) ?_]
  rcases h with h | ⟨x,hx,hp⟩
  · exact .inl (by simpa using h)
  · exact .inr ⟨x,by simpa using hx,hp⟩
theorem ze6 {p:Int->Bool} {s:ByteArray} {n:Nat} (hn:n<=s.size) (hj:∀ j,j<n->p (zab s j)=true) (h:n=s.size∨p (zab s n)=false):zgo p s=n:=by
 refine zkc p _ n (by rw [zev];exact hn) (fun j x h1 h2=>?_) ?_
 · rw [zm1 s j (by omega)] at h2;cases h2;exact hj j h1
 · by_cases e:n=s.size
   · exact .inl (by rw [zev];exact e)
   · rcases h with h | h
     · exact absurd h e
     · exact .inr ⟨_,zm1 s n (by omega),h⟩
theorem zzz (p:Int->Bool) (s:ByteArray):zgo p s<=s.size:=by
 have:=(List.takeWhile_sublist p (l:=zgv s)).length_le
 rw [zev] at this;exact this
def zaq (c:Int):Bool:=(decide (97<=c)&&decide (c<=122))||(decide (65<=c)&&decide (c<=90))
def isDigit (c:Int):Bool:=decide (48<=c)&&decide (c<=57)
def zfb (c:Int):Bool:=zaq c||isDigit c||decide (c=95)
def zfp (c:Int):Bool:=decide (32<=c)&&decide (c<=126)
def isName (s:ByteArray):Bool:=decide (¬s.size=0)&&zaq (zab s 0)&&decide ((s.size:Int)<=20)&&decide ((zgo zfb s:Int)=s.size)
def zdk (s:ByteArray):Bool:=!(decide (400<(s.size:Int))||decide (¬(zgo zfp s:Int)=s.size))
def escB (c:Int):List Int:=bif decide (c=34)||decide (c=92) then [92,c] else [c]
def escA (s:ByteArray) (i:Nat):List Int:=34::((zgv s).take i).flatMap escB
def escS (s:ByteArray):ByteArray:=strOfNums (escA s s.size++[34])
theorem ztj {s:ByteArray} {i:Nat} (h:i<s.size):escA s (i+1)=escA s i++escB (zab s i):=by
 unfold escA
 have:(zgv s).take (i+1)=(zgv s).take i++[zab s i]:=by
  rw [List.take_add_one,zm1 s i h];rfl
 rw [this];simp
theorem zwk (s:ByteArray) (i:Nat):zog (zab s i)=true:=by
 unfold zog zab
 have:=((s.data[i]?).getD 0).toNat_lt
 simp
 omega
theorem z0s {c:Int} (h:zog c=true):(escB c).all zog=true:=by
 unfold escB
 have h':0<=c/\c<256:=by simpa [zog] using h
 cases decide (c=34)||decide (c=92)<;>simp [zog,h']
theorem z26 (s:ByteArray) (i:Nat):(escA s i).all zog=true:=by
 have hb:∀ c∈zgv s,zog c=true:=fun c hc=>by
  simp only [zgv,List.mem_map] at hc
  obtain ⟨j,_,rfl⟩:=hc
  exact zwk s j
 unfold escA
 rw [List.all_cons,Bool.and_eq_true]
 refine ⟨rfl,?_⟩
 rw [List.all_flatMap,List.all_eq_true]
 exact fun c hc=>z0s (hb c (List.mem_of_mem_take hc))
theorem z9q (c:Int):(escB c).length<=2:=by unfold escB;cases decide (c=34)||decide (c=92)<;>simp
theorem zi5:∀ l:List Int,(l.flatMap escB).length<=2*l.length
 | []=>by simp
 | c::l=>by
  have:=zi5 l
  have:=z9q c
  simp only [List.flatMap_cons,List.length_append,List.length_cons]
  omega
theorem yb7 (s:ByteArray) (i:Nat):1<=(escA s i).length/\(escA s i).length<=1+2*s.size:=by
 unfold escA
 have:=zi5 ((zgv s).take i)
 have h2:((zgv s).take i).length<=s.size:=by rw [List.length_take,zev];omega
 simp only [List.length_cons]
 omega
end Go.Hp.T

namespace Go.Hp.T
open Go Go.RowKit Go.Slot Go.Hp
set_option maxRecDepth 10000
inductive Ex where
 | mk (op n:Int) (unit name:ByteArray) (args:List Ex)
def Ex.op:Ex->Int | .mk o _ _ _ _=>o
def Ex.n:Ex->Int | .mk _ n _ _ _=>n
def Ex.unit:Ex->ByteArray | .mk _ _ u _ _=>u
def Ex.name:Ex->ByteArray | .mk _ _ _ s _=>s
def Ex.args:Ex->List Ex | .mk _ _ _ _ l=>l
def Ex.zero:Ex:=.mk 0 0 ⟨#[]⟩ ⟨#[]⟩ []
instance:Inhabited Ex:=⟨Ex.zero⟩
theorem Ex.ind {Q:Ex->Prop} (h:∀ x:Ex,(∀ y∈x.args,Q y)->Q x):∀ x,Q x
 | .mk o n u s l=>h _ (fun y _hy=>Ex.ind h y)
termination_by x=>SizeOf.sizeOf x
decreasing_by
 have:=List.sizeOf_lt_of_mem (show y∈l from _hy)
 simp only [Ex.mk.sizeOf_spec]
 omega
mutual
def Ex.cells:Ex->List Cell
 | .mk o n u s l=>[cI o,cI n,cS u,cS s,.sl 5 (Ex.zvj l)]
def Ex.zvj:List Ex->List (List Cell)
 | []=>[]
 | x::l=>Ex.cells x::Ex.zvj l
end
theorem Ex.zqe:∀ l:List Ex,Ex.zvj l=l.map Ex.cells
 | []=>by rw [Ex.zvj];rfl
 | x::l=>by rw [Ex.zvj,Ex.zqe l];rfl
abbrev exC (x:Ex):List Cell:=[cI x.op,cI x.n,cS x.unit,cS x.name,.sl 5 (x.args.map Ex.cells)]
theorem Ex.zz1 (x:Ex):Ex.cells x=exC x:=by
 cases x with
 | mk o n u s l=>rw [Ex.cells,Ex.zqe];rfl
theorem getD_map' {α β:Type} [Inhabited α] (f:α->β) (d:β):∀(l:List α) (i:Nat),i<l.length->(l.map f).getD i d=f (l.getD i default)
 | [],_,h=>by simp at h
 | _::_,0,_=>rfl
 | _::l,i+1,h=>by simpa using getD_map' f d l i (by simpa using h)
theorem getD_map {α β:Type} [Inhabited α] {f:α->β} {d:β} {l:List α} {i:Nat} (h:i<l.length):(l.map f).getD i d=f (l.getD i default):=getD_map' f d l i h
attribute [go_sem] getD_map Ex.zz1
theorem zal {α:Type} [Inhabited α] {l:List α} {i:Nat} (h:i<l.length):l.getD i default∈l:=by
 have:l.getD i default=l[i]:=by simp [h]
 rw [this];exact List.getElem_mem h
theorem zed {α:Type} [Inhabited α] {l:List α} {i:Nat} (h:i<l.length):l.drop i=l.getD i default::l.drop (i+1):=by
 have:l.getD i default=l[i]:=by simp [h]
 rw [this];exact List.drop_eq_getElem_cons h
theorem zq3 {α:Type} [Inhabited α] {l:List α} {i:Nat} (h:i<l.length):l.take (i+1)=l.take i++[l.getD i default]:=by
 have:l.getD i default=l[i]:=by simp [h]
 rw [this,List.take_add_one];simp [h]
inductive Ex.Sm:Ex->Prop
 | mk (x:Ex) (hl:x.args.length<=1073741824) (hu:x.unit.size<=1073741824) (hs:x.name.size<=1073741824) (h:∀ y∈x.args,Ex.Sm y):Ex.Sm x
theorem Ex.Sm.len {x:Ex} (h:x.Sm):x.args.length<=1073741824:=by cases h;assumption
theorem Ex.Sm.u {x:Ex} (h:x.Sm):x.unit.size<=1073741824:=by cases h;assumption
theorem Ex.Sm.s {x:Ex} (h:x.Sm):x.name.size<=1073741824:=by cases h;assumption
theorem Ex.Sm.arg {x:Ex} (h:x.Sm):∀ y∈x.args,y.Sm:=by cases h;assumption
def isWord (s:ByteArray):Bool:=seq s ⟨#[110,111,116]⟩||seq s ⟨#[105,102]⟩||seq s ⟨#[116,104,101,110]⟩||seq s ⟨#[101,108,115,101]⟩||seq s ⟨#[97,110,100]⟩||seq s ⟨#[111,114]⟩||seq s ⟨#[108,111,111,107]⟩||seq s ⟨#[109,105,110]⟩||seq s ⟨#[109,97,120]⟩||seq s ⟨#[105,110,116,111]⟩||seq s ⟨#[116,111]⟩||seq s ⟨#[97,115]⟩
def isNamed (s:ByteArray):Bool:=isName s&&!isWord s
def ydg (o:Int):ByteArray:=bif decide (o=6) then ⟨#[43]⟩ else bif decide (o=7) then ⟨#[45]⟩ else bif decide (o=8) then ⟨#[42]⟩ else bif decide (o=9) then ⟨#[47]⟩ else bif decide (o=12) then ⟨#[60]⟩ else bif decide (o=13) then ⟨#[61]⟩ else bif decide (o=14) then ⟨#[97,110,100]⟩ else bif decide (o=15) then ⟨#[111,114]⟩ else ⟨#[]⟩
def isOp (o:Int):Bool:=decide (o=6)||decide (o=7)||decide (o=8)||decide (o=9)||decide (o=12)||decide (o=13)||decide (o=14)||decide (o=15)
mutual
def Ex.cnt:Ex->Int->Int->Bool×Int
 | .mk _ _ _ _ l,n,lv=>bif decide (200<n+1)||decide (20<lv) then (false,n+1) else Ex.cntL l (n+1) (lv+1)
def Ex.cntL:List Ex->Int->Int->Bool×Int
 | [],n,_=>(true,n)
 | y::l,n,lv=>match Ex.cnt y n lv with
  | (false,m)=>(false,m)
  | (true,m)=>Ex.cntL l m lv
end
theorem Ex.zvl (x:Ex) (n lv:Int):x.cnt n lv=bif decide (200<n+1)||decide (20<lv) then (false,n+1) else Ex.cntL x.args (n+1) (lv+1):=by cases x;rw [Ex.cnt];rfl
theorem Ex.ycp:∀(x:Ex) (n lv k:Int),x.cnt n lv=(true,k)->n<k/\k<=200:=by
 have hL:∀ l:List Ex,(∀ y∈l,∀(n lv k:Int),y.cnt n lv=(true,k)->n<k/\k<=200)->∀ n lv k:Int,n<=200->Ex.cntL l n lv=(true,k)->n<=k/\k<=200:=by
  intro l
  induction l with
  | nil=>intro _ n lv k hn h;rw [Ex.cntL] at h;cases h;omega
  | cons y l ih=>
   intro hy n lv k hn h
   rw [Ex.cntL] at h
   split at h
   · cases h
   · rename_i m hm
     have h1:=hy y (by simp) _ _ _ hm
     have h2:=ih (fun z hz=>hy z (by simp [hz])) _ _ _ h1.2 h
     omega
 refine Ex.ind (fun x ih n lv k h=>?_)
 rw [Ex.zvl] at h
 by_cases h1:200<n+1
 · simp [h1] at h
 · by_cases h2:20<lv
   · simp [h2] at h
   · simp only [h1,h2,decide_false,Bool.or_self,cond_false] at h
     have:=hL x.args ih _ _ _ (by omega) h
     omega
def zd5 (x:Ex):Bool:=
 bif decide (x.op=0) then zdk x.unit&&decide (0<=x.n)&&decide (x.n<=1099511627776)&&decide (x.name.size=0)&&decide ((x.args.length:Int)=0) else
 bif decide (¬x.n=0)||decide (¬x.unit.size=0) then false else
 bif decide (x.op=1) then isNamed x.name&&decide ((x.args.length:Int)=0) else
 bif decide (x.op=2) then isNamed x.name&&decide ((x.args.length:Int)=1) else
 bif decide (x.op=3) then isNamed x.name&&decide (1<=(x.args.length:Int))&&decide ((x.args.length:Int)<=6) else
 bif decide (x.op=4) then decide (x.name.size=0)&&decide ((x.args.length:Int)=1) else
 bif decide (x.op=5) then decide (x.name.size=0)&&decide ((x.args.length:Int)=3) else
 bif decide (x.op=10)||decide (x.op=11) then decide (x.name.size=0)&&decide ((x.args.length:Int)=2) else
 isOp x.op&&decide (x.name.size=0)&&decide ((x.args.length:Int)=2)
mutual
def Ex.shaped:Ex->Bool
 | .mk o n u s l=>zd5 (.mk o n u s l)&&Ex.zor l
def Ex.zor:List Ex->Bool
 | []=>true
 | y::l=>Ex.shaped y&&Ex.zor l
end
theorem Ex.zpr:∀ l:List Ex,Ex.zor l=l.all Ex.shaped
 | []=>by rw [Ex.zor];rfl
 | y::l=>by rw [Ex.zor,Ex.zpr l];rfl
theorem Ex.zeg (x:Ex):x.shaped=(zd5 x&&x.args.all Ex.shaped):=by cases x;rw [Ex.shaped,Ex.zpr];rfl
def zh4 (x:Ex):Bool:=(x.cnt 0 1).1&&x.shaped
def idxF {α:Type} (p:α->Bool):List α->Int
 | []=>-1
 | x::l=>bif p x then 0 else bif decide (idxF p l = -1) then -1 else idxF p l+1
theorem zxi {α:Type} (p:α->Bool):∀ l:List α,-1<=idxF p l
 | []=>by unfold idxF;omega
 | x::l=>by
  have:=zxi p l
  unfold idxF
  cases p x with
  | true=>simp
  | false=>
   by_cases h:idxF p l = -1
   · simp [h]
   · simp [h];omega
theorem zha {α:Type} (p:α->Bool):∀ l:List α,decide (0<=idxF p l)=l.any p
 | []=>rfl
 | x::l=>by
  have h2:=zha p l
  have h3:=zxi p l
  unfold idxF
  rw [List.any_cons,<-h2]
  cases p x with
  | true=>simp
  | false=>
   by_cases h:idxF p l = -1
   · simp [h]
   · simp [h];omega
theorem zjq {α:Type} [Inhabited α] {p:α->Bool}:∀{l:List α} {i:Nat},i<=l.length->(∀ j,j<i->p (l.getD j default)=false)->(i=l.length->idxF p l = -1)/\(i<l.length->p (l.getD i default)=true->idxF p l=i)
 | [],i,hi,_=>by simp at hi;subst hi;exact ⟨fun _=>rfl,fun h=>by simp at h⟩
 | x::l,0,_,_=>⟨fun h=>by simp at h,fun _ h=>by unfold idxF;have:p x=true:=h;rw [this];rfl⟩
 | x::l,i+1,hi,hj=>by
  have h0:p x=false:=hj 0 (by omega)
  obtain ⟨h1,h2⟩:=zjq (l:=l) (i:=i) (by simpa using hi) (fun j hj'=>by simpa using hj (j+1) (by omega))
  unfold idxF
  rw [h0]
  refine ⟨fun h=>?_,fun h hp=>?_⟩
  · rw [h1 (by simpa using h)];rfl
  · rw [h2 (by simpa using h) (by simpa using hp)]
    have:¬((i:Int) = -1):=by omega
    simp [this]
end Go.Hp.T
