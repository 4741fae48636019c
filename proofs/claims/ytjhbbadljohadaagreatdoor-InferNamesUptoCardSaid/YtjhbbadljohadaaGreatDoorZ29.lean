/- The proof, part Z29: Ti, Ic, Im, Ie, Id. -/
import Derived.Test.YtjhbbadljohadaaGreatDoorZ13
import Derived.Test.YtjhbbadljohadaaGreatDoorZ28
import Derived.Test.YtjhbbadljohadaaGreatDoorChecked
import Derived.Laws.Strings
namespace Go.Slot.T
open Go Go.RowKit Go.Slot Go.Hp
open Go.Proofs.Tryz (prog)
theorem w1 {k:TI→OR}:withTI prog 1 k=k ⟨1,8,[Cell.raw Value.nilFunc],Sh.cell⟩:=withTI_of (by kernel_rfl)
theorem m1:mkTI prog 1=some ⟨1,8,[Cell.raw Value.nilFunc],Sh.cell⟩:=by kernel_rfl
attribute [go_sem ↓] w1
attribute [go_sem] m1
theorem w2 {k:TI→OR}:withTI prog 2 k=k ⟨1,8,[Cell.raw (Value.int IntKind.i64 0)],Sh.int IntKind.i64⟩:=withTI_of (by kernel_rfl)
theorem m2:mkTI prog 2=some ⟨1,8,[Cell.raw (Value.int IntKind.i64 0)],Sh.int IntKind.i64⟩:=by kernel_rfl
attribute [go_sem ↓] w2
attribute [go_sem] m2
theorem u2:prog.underlying 2=some (TypeDesc.int IntKind.i64):=by kernel_rfl
attribute [go_sem] u2
theorem w3 {k:TI→OR}:withTI prog 3 k=k ⟨1,8,[Cell.raw (Value.int IntKind.i64 0)],Sh.int IntKind.i64⟩:=withTI_of (by kernel_rfl)
theorem m3:mkTI prog 3=some ⟨1,8,[Cell.raw (Value.int IntKind.i64 0)],Sh.int IntKind.i64⟩:=by kernel_rfl
attribute [go_sem ↓] w3
attribute [go_sem] m3
theorem u3:prog.underlying 3=some (TypeDesc.int IntKind.i64):=by kernel_rfl
attribute [go_sem] u3
theorem m4:mkTI prog 4=some ⟨1,1,[Cell.raw (Value.bool false)],Sh.bool⟩:=by kernel_rfl
attribute [go_sem] m4
theorem w5 {k:TI→OR}:withTI prog 5 k=k ⟨1,1,[Cell.raw (Value.int IntKind.u8 0)],Sh.int IntKind.u8⟩:=withTI_of (by kernel_rfl)
theorem m5:mkTI prog 5=some ⟨1,1,[Cell.raw (Value.int IntKind.u8 0)],Sh.int IntKind.u8⟩:=by kernel_rfl
attribute [go_sem ↓] w5
attribute [go_sem] m5
theorem u5:prog.underlying 5=some (TypeDesc.int IntKind.u8):=by kernel_rfl
attribute [go_sem] u5
theorem w8 {k:TI→OR}:withTI prog 8 k=k ⟨4,24,[Cell.raw (Value.int IntKind.i64 0),Cell.raw (Value.int IntKind.i64 0),Cell.raw (Value.bool false),Cell.raw (Value.int IntKind.u8 0)],Sh.struct [(0,1,2),(1,1,3),(2,1,4),(3,1,6)]⟩:=withTI_of (by kernel_rfl)
attribute [go_sem ↓] w8
theorem w9 {k:TI→OR}:withTI prog 9 k=k ⟨1,16,[Cell.raw (Value.string ⟨⟨[]⟩⟩)],Sh.string⟩:=withTI_of (by kernel_rfl)
theorem m9:mkTI prog 9=some ⟨1,16,[Cell.raw (Value.string ⟨⟨[]⟩⟩)],Sh.string⟩:=by kernel_rfl
attribute [go_sem ↓] w9
attribute [go_sem] m9
theorem u16:prog.underlying 16=some (TypeDesc.pointer 210):=by kernel_rfl
attribute [go_sem] u16
theorem w22 {k:TI→OR}:withTI prog 22 k=k ⟨1,24,[Cell.zc],Sh.slice 24 5 72 none⟩:=withTI_of (by kernel_rfl)
theorem m22:mkTI prog 22=some ⟨1,24,[Cell.zc],Sh.slice 24 5 72 none⟩:=by kernel_rfl
attribute [go_sem ↓] w22
attribute [go_sem] m22
theorem m24:mkTI prog 24=some ⟨5,72,[Cell.raw (Value.int IntKind.i64 0),Cell.raw (Value.int IntKind.i64 0),Cell.raw (Value.string ⟨⟨[]⟩⟩),Cell.raw (Value.string ⟨⟨[]⟩⟩),Cell.zc],Sh.struct [(0,1,3),(1,1,3),(2,1,9),(3,1,9),(4,1,22)]⟩:=by kernel_rfl
attribute [go_sem] m24
theorem w25 {k:TI→OR}:withTI prog 25 k=k ⟨1,24,[Cell.zc],Sh.slice 38 7 64 none⟩:=withTI_of (by kernel_rfl)
theorem m25:mkTI prog 25=some ⟨1,24,[Cell.zc],Sh.slice 38 7 64 none⟩:=by kernel_rfl
attribute [go_sem ↓] w25
attribute [go_sem] m25
theorem w26 {k:TI→OR}:withTI prog 26 k=k ⟨1,24,[Cell.zc],Sh.slice 55 3 56 none⟩:=withTI_of (by kernel_rfl)
theorem m26:mkTI prog 26=some ⟨1,24,[Cell.zc],Sh.slice 55 3 56 none⟩:=by kernel_rfl
attribute [go_sem ↓] w26
attribute [go_sem] m26
theorem m30:mkTI prog 30=some ⟨6,48,[Cell.raw (Value.int IntKind.i64 0),Cell.raw (Value.int IntKind.i64 0),Cell.raw (Value.int IntKind.i64 0),Cell.raw (Value.int IntKind.i64 0),Cell.raw (Value.int IntKind.i64 0),Cell.raw (Value.int IntKind.i64 0)],Sh.array 6 3 1⟩:=by kernel_rfl
attribute [go_sem] m30
theorem z30:zeroSV prog 30=some (SV.agg [HC.dat (Cell.raw (Value.int IntKind.i64 0)),HC.dat (Cell.raw (Value.int IntKind.i64 0)),HC.dat (Cell.raw (Value.int IntKind.i64 0)),HC.dat (Cell.raw (Value.int IntKind.i64 0)),HC.dat (Cell.raw (Value.int IntKind.i64 0)),HC.dat (Cell.raw (Value.int IntKind.i64 0))]):=by kernel_rfl
attribute [go_sem] z30
theorem m32:mkTI prog 32=some ⟨7,56,[Cell.raw (Value.bool false),Cell.raw (Value.int IntKind.i64 0),Cell.raw (Value.int IntKind.i64 0),Cell.raw (Value.int IntKind.i64 0),Cell.raw (Value.int IntKind.i64 0),Cell.raw (Value.int IntKind.i64 0),Cell.raw (Value.int IntKind.i64 0)],Sh.struct [(0,1,4),(1,6,30)]⟩:=by kernel_rfl
attribute [go_sem] m32
theorem m33:mkTI prog 33=some ⟨1,8,[Cell.raw (Value.int IntKind.i64 0)],Sh.int IntKind.i64⟩:=by kernel_rfl
attribute [go_sem] m33
theorem w38 {k:TI→OR}:withTI prog 38 k=k ⟨7,64,[Cell.raw (Value.string ⟨⟨[]⟩⟩),Cell.raw (Value.int IntKind.i64 0),Cell.raw (Value.int IntKind.i64 0),Cell.raw (Value.int IntKind.i64 0),Cell.raw (Value.int IntKind.i64 0),Cell.raw (Value.int IntKind.i64 0),Cell.raw (Value.int IntKind.i64 0)],Sh.struct [(0,1,9),(1,6,30)]⟩:=withTI_of (by kernel_rfl)
theorem m38:mkTI prog 38=some ⟨7,64,[Cell.raw (Value.string ⟨⟨[]⟩⟩),Cell.raw (Value.int IntKind.i64 0),Cell.raw (Value.int IntKind.i64 0),Cell.raw (Value.int IntKind.i64 0),Cell.raw (Value.int IntKind.i64 0),Cell.raw (Value.int IntKind.i64 0),Cell.raw (Value.int IntKind.i64 0)],Sh.struct [(0,1,9),(1,6,30)]⟩:=by kernel_rfl
attribute [go_sem ↓] w38
attribute [go_sem] m38
theorem w42 {k:TI→OR}:withTI prog 42 k=k ⟨1,2,[Cell.raw (Value.int IntKind.u16 0)],Sh.int IntKind.u16⟩:=withTI_of (by kernel_rfl)
attribute [go_sem ↓] w42
theorem u42:prog.underlying 42=some (TypeDesc.int IntKind.u16):=by kernel_rfl
attribute [go_sem] u42
theorem w43 {k:TI→OR}:withTI prog 43 k=k ⟨1,24,[Cell.zc],Sh.slice 3 1 8 (some IntKind.i64)⟩:=withTI_of (by kernel_rfl)
theorem m43:mkTI prog 43=some ⟨1,24,[Cell.zc],Sh.slice 3 1 8 (some IntKind.i64)⟩:=by kernel_rfl
attribute [go_sem ↓] w43
attribute [go_sem] m43
theorem w45 {k:TI→OR}:withTI prog 45 k=k ⟨2,32,[Cell.raw (Value.int IntKind.i64 0),Cell.zc],Sh.struct [(0,1,3),(1,1,43)]⟩:=withTI_of (by kernel_rfl)
theorem m45:mkTI prog 45=some ⟨2,32,[Cell.raw (Value.int IntKind.i64 0),Cell.zc],Sh.struct [(0,1,3),(1,1,43)]⟩:=by kernel_rfl
attribute [go_sem ↓] w45
attribute [go_sem] m45
theorem w47 {k:TI→OR}:withTI prog 47 k=k ⟨4,64,[Cell.raw (Value.int IntKind.i64 0),Cell.zc,Cell.raw (Value.int IntKind.i64 0),Cell.zc],Sh.struct [(0,2,45),(2,2,45)]⟩:=withTI_of (by kernel_rfl)
theorem m47:mkTI prog 47=some ⟨4,64,[Cell.raw (Value.int IntKind.i64 0),Cell.zc,Cell.raw (Value.int IntKind.i64 0),Cell.zc],Sh.struct [(0,2,45),(2,2,45)]⟩:=by kernel_rfl
attribute [go_sem ↓] w47
attribute [go_sem] m47
theorem m49:mkTI prog 49=some ⟨10,112,[Cell.raw (Value.int IntKind.i64 0),Cell.raw (Value.int IntKind.i64 0),Cell.raw (Value.int IntKind.i64 0),Cell.raw (Value.int IntKind.i64 0),Cell.raw (Value.int IntKind.i64 0),Cell.raw (Value.int IntKind.i64 0),Cell.raw (Value.int IntKind.i64 0),Cell.zc,Cell.raw (Value.int IntKind.i64 0),Cell.zc],Sh.struct [(0,6,30),(6,4,47)]⟩:=by kernel_rfl
attribute [go_sem] m49
theorem w53 {k:TI→OR}:withTI prog 53 k=k ⟨1,24,[Cell.zc],Sh.slice 114 2 16 none⟩:=withTI_of (by kernel_rfl)
theorem m53:mkTI prog 53=some ⟨1,24,[Cell.zc],Sh.slice 114 2 16 none⟩:=by kernel_rfl
attribute [go_sem ↓] w53
attribute [go_sem] m53
theorem w55 {k:TI→OR}:withTI prog 55 k=k ⟨3,56,[Cell.raw (Value.string ⟨⟨[]⟩⟩),Cell.raw (Value.string ⟨⟨[]⟩⟩),Cell.zc],Sh.struct [(0,1,9),(1,1,9),(2,1,53)]⟩:=withTI_of (by kernel_rfl)
theorem m55:mkTI prog 55=some ⟨3,56,[Cell.raw (Value.string ⟨⟨[]⟩⟩),Cell.raw (Value.string ⟨⟨[]⟩⟩),Cell.zc],Sh.struct [(0,1,9),(1,1,9),(2,1,53)]⟩:=by kernel_rfl
attribute [go_sem ↓] w55
attribute [go_sem] m55
theorem m61:mkTI prog 61=some ⟨1,8,[Cell.raw (Value.map none)],Sh.map 9 30⟩:=by kernel_rfl
attribute [go_sem] m61
theorem m63:mkTI prog 63=some ⟨2,16,[Cell.raw (Value.map none),Cell.raw (Value.map none)],Sh.struct [(0,1,61),(1,1,61)]⟩:=by kernel_rfl
attribute [go_sem] m63
theorem w71 {k:TI→OR}:withTI prog 71 k=k ⟨1,24,[Cell.zc],Sh.slice 76 2 24 none⟩:=withTI_of (by kernel_rfl)
theorem m71:mkTI prog 71=some ⟨1,24,[Cell.zc],Sh.slice 76 2 24 none⟩:=by kernel_rfl
attribute [go_sem ↓] w71
attribute [go_sem] m71
theorem m76:mkTI prog 76=some ⟨2,24,[Cell.raw (Value.string ⟨⟨[]⟩⟩),Cell.raw (Value.int IntKind.i64 0)],Sh.struct [(0,1,9),(1,1,3)]⟩:=by kernel_rfl
attribute [go_sem] m76
theorem w89 {k:TI→OR}:withTI prog 89 k=k ⟨1,24,[Cell.zc],Sh.slice 32 7 56 none⟩:=withTI_of (by kernel_rfl)
theorem m89:mkTI prog 89=some ⟨1,24,[Cell.zc],Sh.slice 32 7 56 none⟩:=by kernel_rfl
attribute [go_sem ↓] w89
attribute [go_sem] m89
theorem m114:mkTI prog 114=some ⟨2,16,[Cell.raw (Value.int IntKind.i64 0),Cell.raw (Value.int IntKind.i64 0)],Sh.struct [(0,1,3),(1,1,3)]⟩:=by kernel_rfl
attribute [go_sem] m114
theorem w122 {k:TI→OR}:withTI prog 122 k=k ⟨1,24,[Cell.zc],Sh.slice 9 1 16 none⟩:=withTI_of (by kernel_rfl)
theorem m122:mkTI prog 122=some ⟨1,24,[Cell.zc],Sh.slice 9 1 16 none⟩:=by kernel_rfl
attribute [go_sem ↓] w122
attribute [go_sem] m122
theorem w129 {k:TI→OR}:withTI prog 129 k=k ⟨1,8,[Cell.raw (Value.int IntKind.u64 0)],Sh.int IntKind.u64⟩:=withTI_of (by kernel_rfl)
theorem m129:mkTI prog 129=some ⟨1,8,[Cell.raw (Value.int IntKind.u64 0)],Sh.int IntKind.u64⟩:=by kernel_rfl
attribute [go_sem ↓] w129
attribute [go_sem] m129
theorem m175:mkTI prog 175=some ⟨1,8,[Cell.raw (Value.pointer none)],Sh.cell⟩:=by kernel_rfl
attribute [go_sem] m175
theorem pe175:ptrElem prog 175=some 178:=by kernel_rfl
attribute [go_sem] pe175
theorem u175:prog.underlying 175=some (TypeDesc.pointer 178):=by kernel_rfl
attribute [go_sem] u175
theorem m176:mkTI prog 176=some ⟨1,24,[Cell.zc],Sh.slice 5 1 1 (some IntKind.u8)⟩:=by kernel_rfl
attribute [go_sem] m176
theorem m178:mkTI prog 178=some ⟨2,32,[Cell.raw (Value.pointer none),Cell.zc],Sh.struct [(0,1,175),(1,1,176)]⟩:=by kernel_rfl
attribute [go_sem] m178
theorem pe194:ptrElem prog 194=some 5:=by kernel_rfl
attribute [go_sem] pe194
theorem u203:prog.underlying 203=some TypeDesc.unsafePointer:=by kernel_rfl
attribute [go_sem] u203
theorem pi178:prog.info? 178=some (infoP prog 178):=by kernel_rfl
attribute [go_sem] pi178
theorem ps178:((infoP prog 178).size != 0)=true:=by kernel_rfl
attribute [go_sem] ps178
theorem e0:isNoEsc prog 0=false:=by kernel_rfl
attribute [go_sem] e0
theorem e1:isNoEsc prog 1=false:=by kernel_rfl
attribute [go_sem] e1
theorem e2:isNoEsc prog 2=false:=by kernel_rfl
attribute [go_sem] e2
theorem e3:isNoEsc prog 3=false:=by kernel_rfl
attribute [go_sem] e3
theorem e4:isNoEsc prog 4=false:=by kernel_rfl
attribute [go_sem] e4
theorem e5:isNoEsc prog 5=false:=by kernel_rfl
attribute [go_sem] e5
theorem e6:isNoEsc prog 6=false:=by kernel_rfl
attribute [go_sem] e6
theorem e7:isNoEsc prog 7=false:=by kernel_rfl
attribute [go_sem] e7
theorem e8:isNoEsc prog 8=false:=by kernel_rfl
attribute [go_sem] e8
theorem e9:isNoEsc prog 9=false:=by kernel_rfl
attribute [go_sem] e9
theorem e11:isNoEsc prog 11=false:=by kernel_rfl
attribute [go_sem] e11
theorem e12:isNoEsc prog 12=false:=by kernel_rfl
attribute [go_sem] e12
theorem e13:isNoEsc prog 13=false:=by kernel_rfl
attribute [go_sem] e13
theorem e14:isNoEsc prog 14=false:=by kernel_rfl
attribute [go_sem] e14
theorem e15:isNoEsc prog 15=false:=by kernel_rfl
attribute [go_sem] e15
theorem e16:isNoEsc prog 16=false:=by kernel_rfl
attribute [go_sem] e16
theorem e17:isNoEsc prog 17=false:=by kernel_rfl
attribute [go_sem] e17
theorem e18:isNoEsc prog 18=false:=by kernel_rfl
attribute [go_sem] e18
theorem e19:isNoEsc prog 19=false:=by kernel_rfl
attribute [go_sem] e19
theorem e20:isNoEsc prog 20=false:=by kernel_rfl
attribute [go_sem] e20
theorem e21:isNoEsc prog 21=false:=by kernel_rfl
attribute [go_sem] e21
theorem e22:isNoEsc prog 22=false:=by kernel_rfl
attribute [go_sem] e22
theorem e23:isNoEsc prog 23=false:=by kernel_rfl
attribute [go_sem] e23
theorem e27:isNoEsc prog 27=false:=by kernel_rfl
attribute [go_sem] e27
theorem e28:isNoEsc prog 28=false:=by kernel_rfl
attribute [go_sem] e28
theorem e29:isNoEsc prog 29=false:=by kernel_rfl
attribute [go_sem] e29
theorem e30:isNoEsc prog 30=false:=by kernel_rfl
attribute [go_sem] e30
theorem e31:isNoEsc prog 31=false:=by kernel_rfl
attribute [go_sem] e31
theorem e32:isNoEsc prog 32=false:=by kernel_rfl
attribute [go_sem] e32
theorem e33:isNoEsc prog 33=false:=by kernel_rfl
attribute [go_sem] e33
theorem e34:isNoEsc prog 34=false:=by kernel_rfl
attribute [go_sem] e34
theorem e35:isNoEsc prog 35=false:=by kernel_rfl
attribute [go_sem] e35
theorem e36:isNoEsc prog 36=false:=by kernel_rfl
attribute [go_sem] e36
theorem e37:isNoEsc prog 37=false:=by kernel_rfl
attribute [go_sem] e37
theorem e38:isNoEsc prog 38=false:=by kernel_rfl
attribute [go_sem] e38
theorem e39:isNoEsc prog 39=false:=by kernel_rfl
attribute [go_sem] e39
theorem e40:isNoEsc prog 40=false:=by kernel_rfl
attribute [go_sem] e40
theorem e41:isNoEsc prog 41=false:=by kernel_rfl
attribute [go_sem] e41
theorem e42:isNoEsc prog 42=false:=by kernel_rfl
attribute [go_sem] e42
theorem e43:isNoEsc prog 43=false:=by kernel_rfl
attribute [go_sem] e43
theorem e44:isNoEsc prog 44=false:=by kernel_rfl
attribute [go_sem] e44
theorem e45:isNoEsc prog 45=false:=by kernel_rfl
attribute [go_sem] e45
theorem e46:isNoEsc prog 46=false:=by kernel_rfl
attribute [go_sem] e46
theorem e53:isNoEsc prog 53=false:=by kernel_rfl
attribute [go_sem] e53
theorem e54:isNoEsc prog 54=false:=by kernel_rfl
attribute [go_sem] e54
theorem e55:isNoEsc prog 55=false:=by kernel_rfl
attribute [go_sem] e55
theorem e56:isNoEsc prog 56=false:=by kernel_rfl
attribute [go_sem] e56
theorem e57:isNoEsc prog 57=false:=by kernel_rfl
attribute [go_sem] e57
theorem e58:isNoEsc prog 58=false:=by kernel_rfl
attribute [go_sem] e58
theorem e59:isNoEsc prog 59=false:=by kernel_rfl
attribute [go_sem] e59
theorem e60:isNoEsc prog 60=false:=by kernel_rfl
attribute [go_sem] e60
theorem e61:isNoEsc prog 61=false:=by kernel_rfl
attribute [go_sem] e61
theorem e62:isNoEsc prog 62=false:=by kernel_rfl
attribute [go_sem] e62
theorem e65:isNoEsc prog 65=false:=by kernel_rfl
attribute [go_sem] e65
theorem e66:isNoEsc prog 66=false:=by kernel_rfl
attribute [go_sem] e66
theorem e67:isNoEsc prog 67=false:=by kernel_rfl
attribute [go_sem] e67
theorem e68:isNoEsc prog 68=false:=by kernel_rfl
attribute [go_sem] e68
theorem e70:isNoEsc prog 70=false:=by kernel_rfl
attribute [go_sem] e70
theorem e71:isNoEsc prog 71=false:=by kernel_rfl
attribute [go_sem] e71
theorem e72:isNoEsc prog 72=false:=by kernel_rfl
attribute [go_sem] e72
theorem e73:isNoEsc prog 73=false:=by kernel_rfl
attribute [go_sem] e73
theorem e74:isNoEsc prog 74=false:=by kernel_rfl
attribute [go_sem] e74
theorem e75:isNoEsc prog 75=false:=by kernel_rfl
attribute [go_sem] e75
theorem e76:isNoEsc prog 76=false:=by kernel_rfl
attribute [go_sem] e76
theorem e77:isNoEsc prog 77=false:=by kernel_rfl
attribute [go_sem] e77
theorem e78:isNoEsc prog 78=false:=by kernel_rfl
attribute [go_sem] e78
theorem e84:isNoEsc prog 84=false:=by kernel_rfl
attribute [go_sem] e84
theorem e85:isNoEsc prog 85=false:=by kernel_rfl
attribute [go_sem] e85
theorem e86:isNoEsc prog 86=false:=by kernel_rfl
attribute [go_sem] e86
theorem e87:isNoEsc prog 87=false:=by kernel_rfl
attribute [go_sem] e87
theorem e88:isNoEsc prog 88=false:=by kernel_rfl
attribute [go_sem] e88
theorem e90:isNoEsc prog 90=false:=by kernel_rfl
attribute [go_sem] e90
theorem e91:isNoEsc prog 91=false:=by kernel_rfl
attribute [go_sem] e91
theorem e92:isNoEsc prog 92=false:=by kernel_rfl
attribute [go_sem] e92
theorem e93:isNoEsc prog 93=false:=by kernel_rfl
attribute [go_sem] e93
theorem e97:isNoEsc prog 97=false:=by kernel_rfl
attribute [go_sem] e97
theorem e98:isNoEsc prog 98=false:=by kernel_rfl
attribute [go_sem] e98
theorem e99:isNoEsc prog 99=false:=by kernel_rfl
attribute [go_sem] e99
theorem e100:isNoEsc prog 100=false:=by kernel_rfl
attribute [go_sem] e100
theorem e103:isNoEsc prog 103=false:=by kernel_rfl
attribute [go_sem] e103
theorem e111:isNoEsc prog 111=false:=by kernel_rfl
attribute [go_sem] e111
theorem e112:isNoEsc prog 112=false:=by kernel_rfl
attribute [go_sem] e112
theorem e114:isNoEsc prog 114=false:=by kernel_rfl
attribute [go_sem] e114
theorem e115:isNoEsc prog 115=false:=by kernel_rfl
attribute [go_sem] e115
theorem e116:isNoEsc prog 116=false:=by kernel_rfl
attribute [go_sem] e116
theorem e117:isNoEsc prog 117=false:=by kernel_rfl
attribute [go_sem] e117
theorem e127:isNoEsc prog 127=false:=by kernel_rfl
attribute [go_sem] e127
theorem e128:isNoEsc prog 128=false:=by kernel_rfl
attribute [go_sem] e128
theorem e129:isNoEsc prog 129=false:=by kernel_rfl
attribute [go_sem] e129
theorem e132:isNoEsc prog 132=false:=by kernel_rfl
attribute [go_sem] e132
theorem e141:isNoEsc prog 141=false:=by kernel_rfl
attribute [go_sem] e141
theorem e142:isNoEsc prog 142=false:=by kernel_rfl
attribute [go_sem] e142
theorem e168:isNoEsc prog 168=false:=by kernel_rfl
attribute [go_sem] e168
theorem e180:isNoEsc prog 180=true:=by kernel_rfl
attribute [go_sem] e180
theorem mixed:prog.follows .mixedOrders=true:=by kernel_rfl
theorem drawK_prog {k:Bool→Prop}:DrawK prog k=k true:=propext ⟨fun h=>h.2,fun h=>⟨mixed,h⟩⟩
theorem drawKH_prog {k:Bool→Prop}:DrawKH prog k=k true:=propext ⟨fun h=>h.2,fun h=>⟨mixed,h⟩⟩
attribute [go_sem] drawK_prog drawKH_prog
end Go.Slot.T

namespace Go.Hp
open Go Go.RowKit Go.Slot
variable {P:Program} {Γ:List (Nat×List Cell)} {e:List SB} {G:List (Nat×List GhH)}
theorem guardD {p:Prop} [Decidable p] {X Y:Bool→Prop} (hx:p→decide p=true→X true) (hy:¬p→decide p=false→Y true):GuardK (decide p) true X Y:=⟨fun h=>hx (of_decide_eq_true h) h,fun h=>hy (of_decide_eq_false h) h⟩
theorem guardDN {p:Prop} [Decidable p] {X Y:Bool→Prop} (hx:¬p→decide p=false→X true) (hy:p→decide p=true→Y true):GuardK (decide p) false X Y:=⟨fun h=>hx (of_decide_eq_false h) h,fun h=>hy (of_decide_eq_true h) h⟩
theorem guardT {c:Bool} {X Y:Bool→Prop} (hx:c=true→X true) (hy:c=false→Y true):GuardK c true X Y:=⟨hx,hy⟩
theorem guardF {c:Bool} {X Y:Bool→Prop} (hx:c=false→X true) (hy:c=true→Y true):GuardK c false X Y:=⟨hx,hy⟩
theorem condD {p:Prop} [Decidable p] {X Y:Bool→Prop} (hx:p→decide p=true→X true) (hy:¬p→decide p=false→Y true):CondK (decide p) X Y:=⟨fun h=>hx (of_decide_eq_true h) h,fun h=>hy (of_decide_eq_false h) h⟩
theorem condT {c:Bool} {X Y:Bool→Prop} (hx:c=true→X true) (hy:c=false→Y true):CondK c X Y:=⟨hx,hy⟩
theorem guardNT {c:Bool} {X Y:Bool→Prop} (hx:c=false→X true) (hy:c=true→Y true):GuardK (!c) true X Y:=⟨fun h=>hx (by simpa using h),fun h=>hy (by simpa using h)⟩
theorem guardNF {c:Bool} {X Y:Bool→Prop} (hx:c=true→X true) (hy:c=false→Y true):GuardK (!c) false X Y:=⟨fun h=>hx (by simpa using h),fun h=>hy (by simpa using h)⟩
theorem condN {c:Bool} {X Y:Bool→Prop} (hx:c=false→X true) (hy:c=true→Y true):CondK (!c) X Y:=⟨fun h=>hx (by simpa using h),fun h=>hy (by simpa using h)⟩
theorem hg {p q:Prop} (k:q) (h:p=q:=by conv=>lhs;simp (maxSteps:=2000000) (disch:=omega) only [go_sem,Nat.reduceAdd,Nat.reduceSub,Nat.reduceMul,Int.reduceToNat,Nat.reduceEqDiff,Nat.reduceBEq,Nat.reduceBneDiff,Nat.reduceLT,Int.reduceEq,Int.reduceLT,Int.reduceLE,Int.reduceNeg,Int.reduceAdd,Int.reduceSub,Int.reduceMul]):p:=Eq.mpr h k
theorem hgS {p q:Prop} (k:q) (h:p=q:=by conv=>lhs;simp (maxSteps:=2000000) (disch:=omega) only [go_sem,Nat.reduceAdd,Nat.reduceSub,Nat.reduceMul,Int.reduceToNat,Nat.reduceEqDiff,Nat.reduceBEq,Nat.reduceBneDiff,Nat.reduceLT,Int.reduceEq,Int.reduceLT,Int.reduceLE,Int.reduceNeg,Int.reduceAdd,Int.reduceSub,Int.reduceMul, *]):p:=Eq.mpr h k
theorem hgR {p q:Prop} (k:q) (h:p=q:=by conv=>lhs;simp (maxSteps:=2000000) (disch:=omega) only [go_sem,Nat.reduceAdd,Nat.reduceSub,Nat.reduceMul,Int.reduceToNat,Nat.reduceEqDiff,Nat.reduceBEq,Nat.reduceBneDiff,Nat.reduceLT,Int.reduceEq,Int.reduceLT,Int.reduceLE,Int.reduceNeg,Int.reduceAdd,Int.reduceSub,Int.reduceMul,List.replicate]):p:=Eq.mpr h k
theorem hfk {p q r:Prop} (k:q) (l:r) (h:q→r→p:=by with_reducible first | exact fun a b=>guardD a b | exact fun a b=>guardDN a b | exact fun a b=>guardNT a b | exact fun a b=>guardNF a b | exact fun a b=>guardT a b | exact fun a b=>guardF a b | exact fun a b=>condD a b | exact fun a b=>condN a b | exact fun a b=>condT a b):p:=h k l
theorem hik {ops:List Oper} {acc:List HR} {k:Bool→Prop} (hk:k true) (h:indepH ops acc=true:=by kernel_rfl):IndKH ops acc k:=⟨h,hk⟩
theorem RLe.ofEq {x y:AV} (h:x=y):RLe x y:=h▸.one (.refl _)
def swL (i j:Nat) (η:List SB):List SB:=(List.range η.length).map fun k=>swSB i j (gB η (sw i j k))
theorem sw_lt {i j k n:Nat} (hi:i<n) (hj:j<n) (hk:k<n):sw i j k<n:=by unfold sw;split<;>(try split)<;>omega
theorem StH.swapL {σ:List SV} {η:List SB} {i j:Nat} (hi:e.length≤i) (hj:e.length≤j) (hil:i<η.length) (hjl:j<η.length):StH Γ e σ η (σ.map (swSV i j)) (swL i j η):=by
 refine StH.swap hi hj hil hjl (fun b x hb=>.inl ?_) (by simp [swL])
 have hbl:b<η.length:=(List.getElem?_eq_some_iff.1 hb).1
 unfold swL
 rw [List.getElem?_map,List.getElem?_range (sw_lt hil hjl hbl)]
 simp only [Option.map_some,sw_sw]
 unfold gB
 rw [hb];rfl
def cutOk (m:Nat) (σ:List SV) (η:List SB):Bool:=(σ.all fun x=>(refSV x).all fun b=>Nat.blt b m)&&((η.take m).all fun x=>(refSB x).all fun b=>Nat.blt b m)
theorem StH.cutB {σ:List SV} {η:List SB} (m:Nat) (hm:e.length≤m) (h:cutOk m σ η=true):StH Γ e σ η σ (η.take m):=by
 unfold cutOk at h
 rw [Bool.and_eq_true,List.all_eq_true,List.all_eq_true] at h
 refine StH.cut hm (fun i x hx b hb=>?_) (fun i x hi hx=>.inr fun b hb=>?_)
 · have:=h.1 x (List.mem_of_getElem? hx)
   rw [List.all_eq_true] at this
   simpa using this b hb
 · have:=h.2 x (List.mem_of_getElem? (by rw [List.getElem?_take_of_lt hi];exact hx))
   rw [List.all_eq_true] at this
   simpa using this b hb
theorem StH.back {σ σ':List SV} {η η':List SB} (ks:List Nat) (i j m:Nat) (hi:Nat.ble e.length i=true) (hj:Nat.ble e.length j=true) (hm:Nat.ble e.length m=true) (hil:Nat.blt i η.length=true) (hjl:Nat.blt j η.length=true) (h:cutOk m ((onlyV ks 0 σ).map (swSV i j)) (swL i j η)=true)
 (hk:StH Γ e ((onlyV ks 0 σ).map (swSV i j)) ((swL i j η).take m) σ' η'):StH Γ e σ η σ' η':=
 StH.trans (StH.only ks) (StH.trans (StH.swapL (by simpa using hi) (by simpa using hj) (by simpa using hil) (by simpa using hjl)) (StH.trans (StH.cutB m (by simpa using hm) h) hk))
theorem StH.same {σ:List SV} {η:List SB} {σ':List SV} {η':List SB} (h:SVleL σ σ') (hη:η=η'):StH Γ e σ η σ' η':=hη▸StH.slots h
theorem StH.done {σ σ':List SV} {η η':List SB} (m:Nat) (hm:Nat.ble e.length m=true) (h:cutOk m σ η=true) (hσ:σ=σ') (hη:η.take m=η'):StH Γ e σ η σ' η':=
 hσ▸hη▸StH.cutB m (by simpa using hm) h
theorem partOk.of {φ:List Nat} {η ηs:List SB} (h:φ.map (fun j=>η[j]?)=ηs.map (fun x=>some (rnSB (atR φ η.length) x))):partOk φ η ηs:=by
 have hl:ηs.length=φ.length:=by
  have:=congrArg List.length h
  simpa using this.symm
 refine ⟨hl,fun i x hx=>?_⟩
 have hi:i<ηs.length:=(List.getElem?_eq_some_iff.1 hx).1
 refine ⟨φ[i]'(by omega),List.getElem?_eq_getElem _,?_⟩
 have h1:=congrArg (fun l=>l[i]?) h
 simp only [List.getElem?_map,hx,Option.map_some] at h1
 rw [List.getElem?_eq_getElem (by omega)] at h1
 simpa using h1
theorem CallsH.at (φ:List Nat) {f:FuncId} {η ηs ηs':List SB} {args:List SV} {res:SV} (h:CallsH Γ P f ηs args ηs' res) (hn:φ.Nodup) (hb:(φ.all fun j=>Nat.blt j η.length)=true)
 (hp:φ.map (fun j=>η[j]?)=ηs.map (fun x=>some (rnSB (atR φ η.length) x))) (hlen:Nat.ble φ.length ηs'.length=true):CallsH Γ P f η (args.map (rnSV0 (atR φ η.length))) (putR φ η ηs') (rnSV (atR φ η.length) res):=
 CallsH.frame hn (fun j hj=>by simpa using List.all_eq_true.1 hb j hj) (partOk.of hp) (by simpa using hlen) h
theorem hcallat (φ:List Nat) {f:FuncId} {η ηs ηs':List SB} {args l:List SV} {res:SV} {K:Bool→List SB→SV→Prop} (h:CallsH Γ P f ηs args ηs' res) (hl:args.map (rnSV0 (atR φ η.length))=l) (hn:φ.Nodup) (hb:(φ.all fun j=>Nat.blt j η.length)=true)
 (hp:φ.map (fun j=>η[j]?)=ηs.map (fun x=>some (rnSB (atR φ η.length) x))) (hlen:Nat.ble φ.length ηs'.length=true) (hk:K true (putR φ η ηs') (rnSV (atR φ η.length) res)):CallKH Γ P f η l K:=
 hl▸hcallb (CallsH.at φ h hn hb hp hlen) hk
theorem seq_dec {a b:ByteArray}:seq a b=decide (a=b):=by
 unfold seq
 rw [ByteArray.toList_eq,ByteArray.toList_eq]
 by_cases h:a=b
 · rw [h];simp
 · rw [decide_eq_false h]
   have:a.data.toList≠b.data.toList:=fun he=>h (ByteArray.ext (Array.toList_inj.1 he))
   simpa using this
theorem seq_nil {s:ByteArray}:seq s ⟨#[]⟩=decide (s.size=0):=by
 rw [seq_dec]
 refine decide_eq_decide.2 ⟨fun h=>by rw [h];rfl,fun h=>ByteArray.ext (Array.eq_empty_of_size_eq_zero h)⟩
theorem w8 {n:Int} (h:0≤n∧n≤255):IntKind.u8.wrap n=n:=by rw [IntKind.wrap_u8];omega
attribute [go_sem] w8
theorem toNat_pred {n:Nat}:((n:Int)-1).toNat=n-1:=by omega
theorem toNat_succ {n:Nat}:((n:Int)+1).toNat=n+1:=by omega
attribute [go_sem] toNat_pred toNat_succ
theorem bnot_decide {p:Prop} [Decidable p]:(!decide p)=decide (¬p):=by by_cases h:p<;>simp [h]
theorem gt_vw {σ:List SV} {t:Nat}:gt (σ.map vw) t=vw (gtS σ t):=gt_map t
attribute [go_sem] gt_vw valOp valB elemAt
attribute [go_sem] seq_nil bnot_decide List.size_toArray List.length_map List.getD_cons_zero List.getD_cons_succ
attribute [go_sem] ptrEqH ptrNilC samePtr eqOf litH fillH partsH sliceOf usdH usH bytesH boxAt aggEqH rawsH eqL
attribute [go_sem] putR atR rnSB rnHC rnSV0 rnSV List.zip_cons_cons List.zip_nil_left List.zip_nil_right List.drop_succ_cons
attribute [go_sem] swSV swSV0 swHC swSB sw List.map_nil
end Go.Hp

namespace Go.Hp.T
open Go Go.RowKit Go.Slot Go.Hp
set_option maxRecDepth 10000
theorem toD {Γ:List (Nat×List Cell)} {P:Program} {f:FuncId} {args:List AV} {res:AV} (h:CallsTo P f args res):CallsD Γ P f args res:=Hp.CallsTo.d h
abbrev cI (n:Int):Cell:=.raw (.int .i64 n)
abbrev c8 (n:Int):Cell:=.raw (.int .u8 n)
abbrev cS (s:ByteArray):Cell:=.raw (.string s)
abbrev cB (b:Bool):Cell:=.raw (.bool b)
abbrev fN (f:FuncId):AV:=.one (.raw (.func (.func f) #[] #[]))
def bytesL (s:ByteArray):List Int:=(List.range s.size).map (byteAt s)
theorem bytesL_length (s:ByteArray):(bytesL s).length=s.size:=by simp [bytesL]
theorem bytesL_get (s:ByteArray) (i:Nat) (h:i<s.size):(bytesL s)[i]? = some (byteAt s i):=by simp [bytesL,h]
def spanF (p:Int→Bool) (s:ByteArray):Nat:=((bytesL s).takeWhile p).length
theorem takeWhile_len {α:Type} (p:α→Bool):∀(l:List α) (n:Nat),n≤l.length→(∀ j x,j<n→l[j]? = some x→p x=true)→(n=l.length∨∃ x,l[n]? = some x∧p x=false)→(l.takeWhile p).length=n
 | [],n,hn,_,_=>by simp at hn;simp [hn]
 | a::l,0,_,_,h=>by
  rcases h with h | ⟨x,hx,hp⟩
  · simp at h
  · simp at hx;subst hx;simp [List.takeWhile,hp]
 | a::l,n+1,hn,hj,h=>by
  have ha:p a=true:=hj 0 a (by omega) rfl
  rw [List.takeWhile_cons_of_pos ha,List.length_cons,takeWhile_len p l n (by simpa using hn) (fun j x h1 h2=>hj (j+1) x (by omega) (by simpa using h2)) ?_]
  rcases h with h | ⟨x,hx,hp⟩
  · exact .inl (by simpa using h)
  · exact .inr ⟨x,by simpa using hx,hp⟩
theorem spanF_eq {p:Int→Bool} {s:ByteArray} {n:Nat} (hn:n≤s.size) (hj:∀ j,j<n→p (byteAt s j)=true) (h:n=s.size∨p (byteAt s n)=false):spanF p s=n:=by
 refine takeWhile_len p _ n (by rw [bytesL_length];exact hn) (fun j x h1 h2=>?_) ?_
 · rw [bytesL_get s j (by omega)] at h2;cases h2;exact hj j h1
 · by_cases e:n=s.size
   · exact .inl (by rw [bytesL_length];exact e)
   · rcases h with h | h
     · exact absurd h e
     · exact .inr ⟨_,bytesL_get s n (by omega),h⟩
theorem spanF_le (p:Int→Bool) (s:ByteArray):spanF p s≤s.size:=by
 have:=(List.takeWhile_sublist p (l:=bytesL s)).length_le
 rw [bytesL_length] at this;exact this
def isLetter (c:Int):Bool:=(decide (97≤c)&&decide (c≤122))||(decide (65≤c)&&decide (c≤90))
def isDigit (c:Int):Bool:=decide (48≤c)&&decide (c≤57)
def isInner (c:Int):Bool:=isLetter c||isDigit c||decide (c=95)
def isPlain (c:Int):Bool:=decide (32≤c)&&decide (c≤126)
def isName (s:ByteArray):Bool:=decide (¬s.size=0)&&isLetter (byteAt s 0)&&decide ((s.size:Int)≤20)&&decide ((spanF isInner s:Int)=s.size)
def isQuote (s:ByteArray):Bool:=!(decide (400<(s.size:Int))||decide (¬(spanF isPlain s:Int)=s.size))
def escB (c:Int):List Int:=bif decide (c=34)||decide (c=92) then [92,c] else [c]
def escA (s:ByteArray) (i:Nat):List Int:=34::((bytesL s).take i).flatMap escB
def escS (s:ByteArray):ByteArray:=strOfNums (escA s s.size++[34])
theorem escA_succ {s:ByteArray} {i:Nat} (h:i<s.size):escA s (i+1)=escA s i++escB (byteAt s i):=by
 unfold escA
 have:(bytesL s).take (i+1)=(bytesL s).take i++[byteAt s i]:=by
  rw [List.take_add_one,bytesL_get s i h];rfl
 rw [this];simp
theorem byteAt_byte (s:ByteArray) (i:Nat):byteB (byteAt s i)=true:=by
 unfold byteB byteAt
 have:=((s.data[i]?).getD 0).toNat_lt
 simp
 omega
theorem escB_bytes {c:Int} (h:byteB c=true):(escB c).all byteB=true:=by
 unfold escB
 have h':0≤c∧c<256:=by simpa [byteB] using h
 cases decide (c=34)||decide (c=92)<;>simp [byteB,h']
theorem escA_bytes (s:ByteArray) (i:Nat):(escA s i).all byteB=true:=by
 have hb:∀ c∈bytesL s,byteB c=true:=fun c hc=>by
  simp only [bytesL,List.mem_map] at hc
  obtain ⟨j,_,rfl⟩:=hc
  exact byteAt_byte s j
 unfold escA
 rw [List.all_cons,Bool.and_eq_true]
 refine ⟨rfl,?_⟩
 rw [List.all_flatMap,List.all_eq_true]
 exact fun c hc=>escB_bytes (hb c (List.mem_of_mem_take hc))
theorem escB_len (c:Int):(escB c).length≤2:=by unfold escB;cases decide (c=34)||decide (c=92)<;>simp
theorem flatMap_esc_len:∀ l:List Int,(l.flatMap escB).length≤2*l.length
 | []=>by simp
 | c::l=>by
  have:=flatMap_esc_len l
  have:=escB_len c
  simp only [List.flatMap_cons,List.length_append,List.length_cons]
  omega
theorem escA_len (s:ByteArray) (i:Nat):1≤(escA s i).length∧(escA s i).length≤1+2*s.size:=by
 unfold escA
 have:=flatMap_esc_len ((bytesL s).take i)
 have h2:((bytesL s).take i).length≤s.size:=by rw [List.length_take,bytesL_length];omega
 simp only [List.length_cons]
 omega
end Go.Hp.T

namespace Go.Hp.T
open Go Go.RowKit Go.Slot Go.Hp
set_option maxRecDepth 10000
inductive Ex where
 | mk (op n:Int) (unit name:ByteArray) (args:List Ex)
def Ex.op:Ex→Int | .mk o _ _ _ _=>o
def Ex.n:Ex→Int | .mk _ n _ _ _=>n
def Ex.unit:Ex→ByteArray | .mk _ _ u _ _=>u
def Ex.name:Ex→ByteArray | .mk _ _ _ s _=>s
def Ex.args:Ex→List Ex | .mk _ _ _ _ l=>l
def Ex.zero:Ex:=.mk 0 0 ⟨#[]⟩ ⟨#[]⟩ []
instance:Inhabited Ex:=⟨Ex.zero⟩
theorem Ex.ind {Q:Ex→Prop} (h:∀ x:Ex,(∀ y∈x.args,Q y)→Q x):∀ x,Q x
 | .mk o n u s l=>h _ (fun y _hy=>Ex.ind h y)
termination_by x=>SizeOf.sizeOf x
decreasing_by
 have:=List.sizeOf_lt_of_mem (show y∈l from _hy)
 simp only [Ex.mk.sizeOf_spec]
 omega
mutual
def Ex.cells:Ex→List Cell
 | .mk o n u s l=>[cI o,cI n,cS u,cS s,.sl 5 (Ex.cellsL l)]
def Ex.cellsL:List Ex→List (List Cell)
 | []=>[]
 | x::l=>Ex.cells x::Ex.cellsL l
end
theorem Ex.cellsL_map:∀ l:List Ex,Ex.cellsL l=l.map Ex.cells
 | []=>by rw [Ex.cellsL];rfl
 | x::l=>by rw [Ex.cellsL,Ex.cellsL_map l];rfl
abbrev exC (x:Ex):List Cell:=[cI x.op,cI x.n,cS x.unit,cS x.name,.sl 5 (x.args.map Ex.cells)]
theorem Ex.cells_eq (x:Ex):Ex.cells x=exC x:=by
 cases x with
 | mk o n u s l=>rw [Ex.cells,Ex.cellsL_map];rfl
theorem getD_map' {α β:Type} [Inhabited α] (f:α→β) (d:β):∀(l:List α) (i:Nat),i<l.length→(l.map f).getD i d=f (l.getD i default)
 | [],_,h=>by simp at h
 | _::_,0,_=>rfl
 | _::l,i+1,h=>by simpa using getD_map' f d l i (by simpa using h)
theorem getD_map {α β:Type} [Inhabited α] {f:α→β} {d:β} {l:List α} {i:Nat} (h:i<l.length):(l.map f).getD i d=f (l.getD i default):=getD_map' f d l i h
attribute [go_sem] getD_map Ex.cells_eq
theorem getD_mem {α:Type} [Inhabited α] {l:List α} {i:Nat} (h:i<l.length):l.getD i default∈l:=by
 have:l.getD i default=l[i]:=by simp [h]
 rw [this];exact List.getElem_mem h
theorem drop_getD {α:Type} [Inhabited α] {l:List α} {i:Nat} (h:i<l.length):l.drop i=l.getD i default::l.drop (i+1):=by
 have:l.getD i default=l[i]:=by simp [h]
 rw [this];exact List.drop_eq_getElem_cons h
theorem take_getD {α:Type} [Inhabited α] {l:List α} {i:Nat} (h:i<l.length):l.take (i+1)=l.take i++[l.getD i default]:=by
 have:l.getD i default=l[i]:=by simp [h]
 rw [this,List.take_add_one];simp [h]
inductive Ex.Sm:Ex→Prop
 | mk (x:Ex) (hl:x.args.length≤1073741824) (hu:x.unit.size≤1073741824) (hs:x.name.size≤1073741824) (h:∀ y∈x.args,Ex.Sm y):Ex.Sm x
theorem Ex.Sm.len {x:Ex} (h:x.Sm):x.args.length≤1073741824:=by cases h;assumption
theorem Ex.Sm.u {x:Ex} (h:x.Sm):x.unit.size≤1073741824:=by cases h;assumption
theorem Ex.Sm.s {x:Ex} (h:x.Sm):x.name.size≤1073741824:=by cases h;assumption
theorem Ex.Sm.arg {x:Ex} (h:x.Sm):∀ y∈x.args,y.Sm:=by cases h;assumption
def isWord (s:ByteArray):Bool:=seq s ⟨#[110,111,116]⟩||seq s ⟨#[105,102]⟩||seq s ⟨#[116,104,101,110]⟩||seq s ⟨#[101,108,115,101]⟩||seq s ⟨#[97,110,100]⟩||seq s ⟨#[111,114]⟩||seq s ⟨#[108,111,111,107]⟩||seq s ⟨#[109,105,110]⟩||seq s ⟨#[109,97,120]⟩||seq s ⟨#[105,110,116,111]⟩||seq s ⟨#[116,111]⟩||seq s ⟨#[97,115]⟩
def isNamed (s:ByteArray):Bool:=isName s&&!isWord s
def opText (o:Int):ByteArray:=bif decide (o=6) then ⟨#[43]⟩ else bif decide (o=7) then ⟨#[45]⟩ else bif decide (o=8) then ⟨#[42]⟩ else bif decide (o=9) then ⟨#[47]⟩ else bif decide (o=12) then ⟨#[60]⟩ else bif decide (o=13) then ⟨#[61]⟩ else bif decide (o=14) then ⟨#[97,110,100]⟩ else bif decide (o=15) then ⟨#[111,114]⟩ else ⟨#[]⟩
def isOp (o:Int):Bool:=decide (o=6)||decide (o=7)||decide (o=8)||decide (o=9)||decide (o=12)||decide (o=13)||decide (o=14)||decide (o=15)
mutual
def Ex.cnt:Ex→Int→Int→Bool×Int
 | .mk _ _ _ _ l,n,lv=>bif decide (200<n+1)||decide (20<lv) then (false,n+1) else Ex.cntL l (n+1) (lv+1)
def Ex.cntL:List Ex→Int→Int→Bool×Int
 | [],n,_=>(true,n)
 | y::l,n,lv=>match Ex.cnt y n lv with
  | (false,m)=>(false,m)
  | (true,m)=>Ex.cntL l m lv
end
theorem Ex.cnt_eq (x:Ex) (n lv:Int):x.cnt n lv=bif decide (200<n+1)||decide (20<lv) then (false,n+1) else Ex.cntL x.args (n+1) (lv+1):=by cases x;rw [Ex.cnt];rfl
theorem Ex.cnt_true:∀(x:Ex) (n lv k:Int),x.cnt n lv=(true,k)→n<k∧k≤200:=by
 have hL:∀ l:List Ex,(∀ y∈l,∀(n lv k:Int),y.cnt n lv=(true,k)→n<k∧k≤200)→∀ n lv k:Int,n≤200→Ex.cntL l n lv=(true,k)→n≤k∧k≤200:=by
  intro l
  induction l with
  | nil=>intro _ n lv k hn h;rw [Ex.cntL] at h;cases h;omega
  | cons y l ih=>
   intro hy n lv k hn h
   rw [Ex.cntL] at h
   split at h
   · cases h
   · rename_i m hm
     have h1:=hy y (by simp) _ _ _ hm
     have h2:=ih (fun z hz=>hy z (by simp [hz])) _ _ _ h1.2 h
     omega
 refine Ex.ind (fun x ih n lv k h=>?_)
 rw [Ex.cnt_eq] at h
 by_cases h1:200<n+1
 · simp [h1] at h
 · by_cases h2:20<lv
   · simp [h2] at h
   · simp only [h1,h2,decide_false,Bool.or_self,cond_false] at h
     have:=hL x.args ih _ _ _ (by omega) h
     omega
def exNode (x:Ex):Bool:=
 bif decide (x.op=0) then isQuote x.unit&&decide (0≤x.n)&&decide (x.n≤1099511627776)&&decide (x.name.size=0)&&decide ((x.args.length:Int)=0) else
 bif decide (¬x.n=0)||decide (¬x.unit.size=0) then false else
 bif decide (x.op=1) then isNamed x.name&&decide ((x.args.length:Int)=0) else
 bif decide (x.op=2) then isNamed x.name&&decide ((x.args.length:Int)=1) else
 bif decide (x.op=3) then isNamed x.name&&decide (1≤(x.args.length:Int))&&decide ((x.args.length:Int)≤6) else
 bif decide (x.op=4) then decide (x.name.size=0)&&decide ((x.args.length:Int)=1) else
 bif decide (x.op=5) then decide (x.name.size=0)&&decide ((x.args.length:Int)=3) else
 bif decide (x.op=10)||decide (x.op=11) then decide (x.name.size=0)&&decide ((x.args.length:Int)=2) else
 isOp x.op&&decide (x.name.size=0)&&decide ((x.args.length:Int)=2)
mutual
def Ex.shaped:Ex→Bool
 | .mk o n u s l=>exNode (.mk o n u s l)&&Ex.shapedL l
def Ex.shapedL:List Ex→Bool
 | []=>true
 | y::l=>Ex.shaped y&&Ex.shapedL l
end
theorem Ex.shapedL_all:∀ l:List Ex,Ex.shapedL l=l.all Ex.shaped
 | []=>by rw [Ex.shapedL];rfl
 | y::l=>by rw [Ex.shapedL,Ex.shapedL_all l];rfl
theorem Ex.shaped_eq (x:Ex):x.shaped=(exNode x&&x.args.all Ex.shaped):=by cases x;rw [Ex.shaped,Ex.shapedL_all];rfl
def exRight (x:Ex):Bool:=(x.cnt 0 1).1&&x.shaped
def idxF {α:Type} (p:α→Bool):List α→Int
 | []=>-1
 | x::l=>bif p x then 0 else bif decide (idxF p l = -1) then -1 else idxF p l+1
theorem idxF_ge {α:Type} (p:α→Bool):∀ l:List α,-1≤idxF p l
 | []=>by unfold idxF;omega
 | x::l=>by
  have:=idxF_ge p l
  unfold idxF
  cases p x with
  | true=>simp
  | false=>
   by_cases h:idxF p l = -1
   · simp [h]
   · simp [h];omega
theorem idxF_any {α:Type} (p:α→Bool):∀ l:List α,decide (0≤idxF p l)=l.any p
 | []=>rfl
 | x::l=>by
  have h2:=idxF_any p l
  have h3:=idxF_ge p l
  unfold idxF
  rw [List.any_cons,←h2]
  cases p x with
  | true=>simp
  | false=>
   by_cases h:idxF p l = -1
   · simp [h]
   · simp [h];omega
theorem idxF_at {α:Type} [Inhabited α] {p:α→Bool}:∀{l:List α} {i:Nat},i≤l.length→(∀ j,j<i→p (l.getD j default)=false)→(i=l.length→idxF p l = -1)∧(i<l.length→p (l.getD i default)=true→idxF p l=i)
 | [],i,hi,_=>by simp at hi;subst hi;exact ⟨fun _=>rfl,fun h=>by simp at h⟩
 | x::l,0,_,_=>⟨fun h=>by simp at h,fun _ h=>by unfold idxF;have:p x=true:=h;rw [this];rfl⟩
 | x::l,i+1,hi,hj=>by
  have h0:p x=false:=hj 0 (by omega)
  obtain ⟨h1,h2⟩:=idxF_at (l:=l) (i:=i) (by simpa using hi) (fun j hj'=>by simpa using hj (j+1) (by omega))
  unfold idxF
  rw [h0]
  refine ⟨fun h=>?_,fun h hp=>?_⟩
  · rw [h1 (by simpa using h)];rfl
  · rw [h2 (by simpa using h) (by simpa using hp)]
    have:¬((i:Int) = -1):=by omega
    simp [this]
end Go.Hp.T

namespace Go.Hp
open Go Go.RowKit Go.Slot
variable {P:Program} {Γ:List (Nat×List Cell)} {e:List SB} {G:List (Nat×List GhH)}
def cutOkE (n m:Nat) (σ:List SV) (η:List SB):Bool:=(σ.all fun x=>(refSV x).all fun b=>Nat.blt b m)&&(((η.take m).drop n).all fun x=>(refSB x).all fun b=>Nat.blt b m)
theorem StH.cutE {σ:List SV} {η:List SB} (m:Nat) (hm:e.length≤m) (he:η.take e.length=e) (h:cutOkE e.length m σ η=true):StH Γ e σ η σ (η.take m):=by
 unfold cutOkE at h
 rw [Bool.and_eq_true,List.all_eq_true,List.all_eq_true] at h
 refine StH.cut hm (fun i x hx b hb=>?_) (fun i x hi hx=>?_)
 · have:=h.1 x (List.mem_of_getElem? hx)
   rw [List.all_eq_true] at this
   simpa using this b hb
 · by_cases hie:i<e.length
   · left
     rw [←he,List.getElem?_take_of_lt hie];exact hx
   · right
     intro b hb
     have hmem:x∈(η.take m).drop e.length:=by
      have:((η.take m).drop e.length)[i-e.length]? = some x:=by
       rw [List.getElem?_drop,show e.length+(i-e.length)=i from by omega,List.getElem?_take_of_lt hi];exact hx
      exact List.mem_of_getElem? this
     have:=h.2 x hmem
     rw [List.all_eq_true] at this
     simpa using this b hb
theorem StH.doneE {σ σ':List SV} {η:List SB} (he:η.take e.length=e) (h:(σ.all fun x=>(refSV x).all fun b=>Nat.blt b e.length)=true) (hσ:σ=σ'):StH Γ e σ η σ' e:=by
 have hc:cutOkE e.length e.length σ η=true:=by
  unfold cutOkE
  rw [h,Bool.true_and,List.all_eq_true]
  intro x hx
  rw [List.drop_eq_nil_of_le (by rw [List.length_take];omega)] at hx
  cases hx
 have:=StH.cutE (Γ:=Γ) (σ:=σ) e.length (Nat.le_refl _) he hc
 rw [he] at this
 exact hσ▸this
def swLE (n i j:Nat) (η:List SB):List SB:=(List.range η.length).map fun k=>bif Nat.blt k n then gB η k else swSB i j (gB η (sw i j k))
theorem StH.swapLE {σ:List SV} {η:List SB} {i j:Nat} (he:η.take e.length=e) (hi:e.length≤i) (hj:e.length≤j) (hil:i<η.length) (hjl:j<η.length):StH Γ e σ η (σ.map (swSV i j)) (swLE e.length i j η):=by
 refine StH.swap hi hj hil hjl (fun b x hb=>?_) (by simp [swLE])
 have hbl:b<η.length:=(List.getElem?_eq_some_iff.1 hb).1
 by_cases hbe:b<e.length
 · right
   refine ⟨by rw [←he,List.getElem?_take_of_lt hbe];exact hb,?_⟩
   unfold swLE
   rw [List.getElem?_map,List.getElem?_range hbl]
   have hbt:Nat.blt b e.length=true:=by simpa using hbe
   have hg:gB η b=x:=by unfold gB;rw [hb];rfl
   simp only [Option.map_some,hbt,cond_true,hg]
 · left
   have hsw:e.length≤sw i j b:=by unfold sw;split<;>(try split)<;>omega
   unfold swLE
   rw [List.getElem?_map,List.getElem?_range (sw_lt hil hjl hbl)]
   have h1:Nat.blt (sw i j b) e.length=false:=by
    have:¬(sw i j b<e.length):=by omega
    cases hh:Nat.blt (sw i j b) e.length with
    | false=>rfl
    | true=>exact absurd (by simpa using hh) this
   have hg:gB η b=x:=by unfold gB;rw [hb];rfl
   simp only [Option.map_some,sw_sw,h1,cond_false,hg]
theorem StH.backE {σ σ':List SV} {η η':List SB} (ks:List Nat) (i j m:Nat) (he:η.take e.length=e) (he':(swLE e.length i j η).take e.length=e) (hi:Nat.ble e.length i=true) (hj:Nat.ble e.length j=true) (hm:Nat.ble e.length m=true) (hil:Nat.blt i η.length=true) (hjl:Nat.blt j η.length=true)
 (h:cutOkE e.length m ((onlyV ks 0 σ).map (swSV i j)) (swLE e.length i j η)=true) (hk:StH Γ e ((onlyV ks 0 σ).map (swSV i j)) ((swLE e.length i j η).take m) σ' η'):StH Γ e σ η σ' η':=
 StH.trans (StH.only ks) (StH.trans (StH.swapLE he (by simpa using hi) (by simpa using hj) (by simpa using hil) (by simpa using hjl)) (StH.trans (StH.cutE m (by simpa using hm) he' h) hk))
def dzS (η:List SB):SV→SV×List Nat
 | .one h=>match toDat η h with
  | some (c,bs)=>(.one (.dat c),bs)
  | none=>(.one h,[])
 | x=>(x,[])
def dzL (η:List SB):List SV→List SV
 | []=>[]
 | x::l=>(dzS η x).1::dzL η l
def dzB (η:List SB):List SV→List Nat
 | []=>[]
 | x::l=>(dzS η x).2++dzB η l
theorem dzS_arr {η:List SB} {x:SV}:∀ b∈(dzS η x).2,isArr (gB η b)=true:=by
 intro b hb
 unfold dzS at hb
 split at hb
 · split at hb
   · rename_i hd;exact toDat_arr hd b hb
   · cases hb
 · cases hb
theorem dzB_arr {η:List SB}:∀{l:List SV},∀ b∈dzB η l,isArr (gB η b)=true
 | [],b,hb=>by cases hb
 | x::l,b,hb=>by
  rcases List.mem_append.1 hb with h | h
  · exact dzS_arr b h
  · exact dzB_arr b h
theorem dzL_ok {Mo:Nat→Nat→Prop} {ρ:Nat→Value} {η η':List SB} {w:World} (hI:HInv Γ Mo ρ η' w):∀{l:List SV} {vs:List Value},(∀ b∈dzB η l,gB η' b=frzB (gB η b))→SRL η' ρ (MX Mo ρ η') w vs l→SRL η' ρ (MX Mo ρ η') w vs (dzL η l)
 | [],[],_,_=>trivial
 | [],_::_,_,h=>h.elim
 | _::_,[],_,h=>h.elim
 | x::l,v::vs,hf,h=>by
  refine ⟨?_,dzL_ok hI (fun b hb=>hf b (List.mem_append.2 (.inr hb))) h.2⟩
  have h1:=h.1
  cases x with
  | one y=>
   cases hd:toDat η y with
   | none=>
    have:dzS η (.one y)=(.one y,[]):=by unfold dzS;simp only [hd]
    rw [this];exact h1
   | some p=>
    obtain ⟨c,bs⟩:=p
    have he:dzS η (.one y)=(.one (.dat c),bs):=by unfold dzS;simp only [hd]
    rw [he]
    exact toDat_ok hI hd (fun b hb=>hf b (List.mem_append.2 (.inl (by rw [he];exact hb)))) h1
  | _=>exact h1
theorem CallsH.frz {f:FuncId} {η η':List SB} {l:List SV} {res:SV} (h:CallsH Γ P f (appL (frzE η (dzB η l)) η) (dzL η l) η' res):CallsH Γ P f η l η' res:=by
 refine ⟨h.1,fun Mo ρ w vs hI hsr=>?_⟩
 obtain ⟨h1,_,h3⟩:=Went.frz (dzB η l) η hI rfl dzB_arr (fun _=>.inl rfl)
 refine (h.2 Mo ρ w vs h1.inv (dzL_ok h1.inv h3 (hsr.mv h1.mv))).mono ?_
 rintro x w' ⟨v,ρ',rfl,hw,hv⟩
 exact ⟨v,ρ',rfl,h1.trans hw,hv⟩
def envM {α:Type} (C:α→SV):List (ByteArray×α)→List (Value×SV)
 | []=>[]
 | p::l=>(.string p.1,C p.2)::envM C l
def lookF {α:Type}:List (ByteArray×α)→ByteArray→Option α
 | [],_=>none
 | p::l,s=>bif seq s p.1 then some p.2 else lookF l s
def updF {α:Type}:List (ByteArray×α)→ByteArray→α→List (ByteArray×α)
 | [],s,v=>[(s,v)]
 | p::l,s,v=>bif seq s p.1 then (s,v)::l else p::updF l s v
theorem envM_length {α:Type} (C:α→SV):∀ l:List (ByteArray×α),(envM C l).length=l.length
 | []=>rfl
 | _::l=>by rw [envM,List.length_cons,envM_length C l];rfl
theorem seq_comm {a b:ByteArray}:seq a b=seq b a:=by rw [seq_dec,seq_dec];exact decide_eq_decide.2 eq_comm
theorem findM_env {α:Type} {C:α→SV} {s:ByteArray}:∀{l:List (ByteArray×α)},findM (envM C l) (.string s)=some ((lookF l s).map C)
 | []=>rfl
 | p::l=>by
  have ih:=findM_env (C:=C) (s:=s) (l:=l)
  simp only [envM,findM,kEq,lookF]
  rw [ih]
  first
   | (cases seq s p.1<;>rfl)
   | (rw [seq_comm];cases seq s p.1<;>rfl)
theorem updM_env {α:Type} {C:α→SV} {s:ByteArray} {v:α}:∀{l:List (ByteArray×α)},updM (envM C l) (.string s) (C v)=some (envM C (updF l s v))
 | []=>rfl
 | p::l=>by
  have ih:=updM_env (C:=C) (s:=s) (v:=v) (l:=l)
  simp only [envM,updM,kEq,updF]
  rw [ih]
  first
   | (cases seq s p.1<;>rfl)
   | (rw [seq_comm];cases seq s p.1<;>rfl)
attribute [go_sem] findM_env envM_length
end Go.Hp
