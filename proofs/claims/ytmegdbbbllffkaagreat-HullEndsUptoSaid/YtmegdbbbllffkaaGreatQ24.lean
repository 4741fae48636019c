/- The proof, part Q24: Ti, Ic, Im. -/
import Derived.Test.YtmegdbbbllffkaaGreatQ12
import Derived.Test.YtmegdbbbllffkaaGreatQ23
import Derived.Test.YtmegdbbbllffkaaGreatChecked
import Derived.Laws.Strings
namespace Go.Slot.T
open Go Go.RowKit Go.Slot Go.Hp
open Go.Proofs.Tryz (prog)
theorem w1 {k:TI->OR}:zl2 prog 1 k=k ⟨1,8,[Cell.raw Value.nilFunc],Sh.cell⟩:=yr7 (by kernel_rfl)
theorem m1:mkTI prog 1=some ⟨1,8,[Cell.raw Value.nilFunc],Sh.cell⟩:=by kernel_rfl
attribute [go_sem ↓] w1
attribute [go_sem] m1
theorem z1:w2m prog 1=some (SV.one (HC.dat (Cell.raw Value.nilFunc))):=by kernel_rfl
attribute [go_sem] z1
theorem w2 {k:TI->OR}:zl2 prog 2 k=k ⟨1,8,[Cell.raw (Value.int IntKind.i64 0)],Sh.int IntKind.i64⟩:=yr7 (by kernel_rfl)
theorem m2:mkTI prog 2=some ⟨1,8,[Cell.raw (Value.int IntKind.i64 0)],Sh.int IntKind.i64⟩:=by kernel_rfl
attribute [go_sem ↓] w2
attribute [go_sem] m2
theorem u2:prog.underlying 2=some (TypeDesc.int IntKind.i64):=by kernel_rfl
attribute [go_sem] u2
theorem z2:w2m prog 2=some (SV.one (HC.dat (Cell.raw (Value.int IntKind.i64 0)))):=by kernel_rfl
attribute [go_sem] z2
theorem w3 {k:TI->OR}:zl2 prog 3 k=k ⟨1,8,[Cell.raw (Value.int IntKind.i64 0)],Sh.int IntKind.i64⟩:=yr7 (by kernel_rfl)
theorem m3:mkTI prog 3=some ⟨1,8,[Cell.raw (Value.int IntKind.i64 0)],Sh.int IntKind.i64⟩:=by kernel_rfl
attribute [go_sem ↓] w3
attribute [go_sem] m3
theorem u3:prog.underlying 3=some (TypeDesc.int IntKind.i64):=by kernel_rfl
attribute [go_sem] u3
theorem z3:w2m prog 3=some (SV.one (HC.dat (Cell.raw (Value.int IntKind.i64 0)))):=by kernel_rfl
attribute [go_sem] z3
theorem m4:mkTI prog 4=some ⟨1,1,[Cell.raw (Value.bool false)],Sh.bool⟩:=by kernel_rfl
attribute [go_sem] m4
theorem w5 {k:TI->OR}:zl2 prog 5 k=k ⟨1,1,[Cell.raw (Value.int IntKind.u8 0)],Sh.int IntKind.u8⟩:=yr7 (by kernel_rfl)
theorem m5:mkTI prog 5=some ⟨1,1,[Cell.raw (Value.int IntKind.u8 0)],Sh.int IntKind.u8⟩:=by kernel_rfl
attribute [go_sem ↓] w5
attribute [go_sem] m5
theorem u5:prog.underlying 5=some (TypeDesc.int IntKind.u8):=by kernel_rfl
attribute [go_sem] u5
theorem w9 {k:TI->OR}:zl2 prog 9 k=k ⟨1,16,[Cell.raw (Value.string ⟨⟨[]⟩⟩)],Sh.string⟩:=yr7 (by kernel_rfl)
theorem m9:mkTI prog 9=some ⟨1,16,[Cell.raw (Value.string ⟨⟨[]⟩⟩)],Sh.string⟩:=by kernel_rfl
attribute [go_sem ↓] w9
attribute [go_sem] m9
theorem w22 {k:TI->OR}:zl2 prog 22 k=k ⟨1,24,[Cell.zc],Sh.slice 24 5 72 none⟩:=yr7 (by kernel_rfl)
theorem m22:mkTI prog 22=some ⟨1,24,[Cell.zc],Sh.slice 24 5 72 none⟩:=by kernel_rfl
attribute [go_sem ↓] w22
attribute [go_sem] m22
theorem m24:mkTI prog 24=some ⟨5,72,[Cell.raw (Value.int IntKind.i64 0),Cell.raw (Value.int IntKind.i64 0),Cell.raw (Value.string ⟨⟨[]⟩⟩),Cell.raw (Value.string ⟨⟨[]⟩⟩),Cell.zc],Sh.struct [(0,1,3),(1,1,3),(2,1,9),(3,1,9),(4,1,22)]⟩:=by kernel_rfl
attribute [go_sem] m24
theorem w25 {k:TI->OR}:zl2 prog 25 k=k ⟨1,24,[Cell.zc],Sh.slice 45 9 144 none⟩:=yr7 (by kernel_rfl)
theorem m25:mkTI prog 25=some ⟨1,24,[Cell.zc],Sh.slice 45 9 144 none⟩:=by kernel_rfl
attribute [go_sem ↓] w25
attribute [go_sem] m25
theorem w26 {k:TI->OR}:zl2 prog 26 k=k ⟨1,24,[Cell.zc],Sh.slice 122 3 56 none⟩:=yr7 (by kernel_rfl)
theorem m26:mkTI prog 26=some ⟨1,24,[Cell.zc],Sh.slice 122 3 56 none⟩:=by kernel_rfl
attribute [go_sem ↓] w26
attribute [go_sem] m26
theorem w29 {k:TI->OR}:zl2 prog 29 k=k ⟨1,24,[Cell.zc],Sh.slice 3 1 8 (some IntKind.i64)⟩:=yr7 (by kernel_rfl)
theorem m29:mkTI prog 29=some ⟨1,24,[Cell.zc],Sh.slice 3 1 8 (some IntKind.i64)⟩:=by kernel_rfl
attribute [go_sem ↓] w29
attribute [go_sem] m29
theorem w31 {k:TI->OR}:zl2 prog 31 k=k ⟨2,32,[Cell.raw (Value.int IntKind.i64 0),Cell.zc],Sh.struct [(0,1,3),(1,1,29)]⟩:=yr7 (by kernel_rfl)
theorem m31:mkTI prog 31=some ⟨2,32,[Cell.raw (Value.int IntKind.i64 0),Cell.zc],Sh.struct [(0,1,3),(1,1,29)]⟩:=by kernel_rfl
attribute [go_sem ↓] w31
attribute [go_sem] m31
theorem w33 {k:TI->OR}:zl2 prog 33 k=k ⟨4,64,[Cell.raw (Value.int IntKind.i64 0),Cell.zc,Cell.raw (Value.int IntKind.i64 0),Cell.zc],Sh.struct [(0,2,31),(2,2,31)]⟩:=yr7 (by kernel_rfl)
theorem m33:mkTI prog 33=some ⟨4,64,[Cell.raw (Value.int IntKind.i64 0),Cell.zc,Cell.raw (Value.int IntKind.i64 0),Cell.zc],Sh.struct [(0,2,31),(2,2,31)]⟩:=by kernel_rfl
attribute [go_sem ↓] w33
attribute [go_sem] m33
theorem z33:w2m prog 33=some (SV.agg [HC.dat (Cell.raw (Value.int IntKind.i64 0)),HC.dat Cell.zc,HC.dat (Cell.raw (Value.int IntKind.i64 0)),HC.dat Cell.zc]):=by kernel_rfl
attribute [go_sem] z33
theorem w35 {k:TI->OR}:zl2 prog 35 k=k ⟨8,128,[Cell.raw (Value.int IntKind.i64 0),Cell.zc,Cell.raw (Value.int IntKind.i64 0),Cell.zc,Cell.raw (Value.int IntKind.i64 0),Cell.zc,Cell.raw (Value.int IntKind.i64 0),Cell.zc],Sh.struct [(0,4,33),(4,4,33)]⟩:=yr7 (by kernel_rfl)
theorem m35:mkTI prog 35=some ⟨8,128,[Cell.raw (Value.int IntKind.i64 0),Cell.zc,Cell.raw (Value.int IntKind.i64 0),Cell.zc,Cell.raw (Value.int IntKind.i64 0),Cell.zc,Cell.raw (Value.int IntKind.i64 0),Cell.zc],Sh.struct [(0,4,33),(4,4,33)]⟩:=by kernel_rfl
attribute [go_sem ↓] w35
attribute [go_sem] m35
theorem z35:w2m prog 35=some (SV.agg [HC.dat (Cell.raw (Value.int IntKind.i64 0)),HC.dat Cell.zc,HC.dat (Cell.raw (Value.int IntKind.i64 0)),HC.dat Cell.zc,HC.dat (Cell.raw (Value.int IntKind.i64 0)),HC.dat Cell.zc,HC.dat (Cell.raw (Value.int IntKind.i64 0)),HC.dat Cell.zc]):=by kernel_rfl
attribute [go_sem] z35
theorem m36:mkTI prog 36=some ⟨1,8,[Cell.raw (Value.int IntKind.i64 0)],Sh.int IntKind.i64⟩:=by kernel_rfl
attribute [go_sem] m36
theorem w42 {k:TI->OR}:zl2 prog 42 k=k ⟨1,24,[Cell.zc],Sh.slice 35 8 128 none⟩:=yr7 (by kernel_rfl)
theorem m42:mkTI prog 42=some ⟨1,24,[Cell.zc],Sh.slice 35 8 128 none⟩:=by kernel_rfl
attribute [go_sem ↓] w42
attribute [go_sem] m42
theorem m45:mkTI prog 45=some ⟨9,144,[Cell.raw (Value.string ⟨⟨[]⟩⟩),Cell.raw (Value.int IntKind.i64 0),Cell.zc,Cell.raw (Value.int IntKind.i64 0),Cell.zc,Cell.raw (Value.int IntKind.i64 0),Cell.zc,Cell.raw (Value.int IntKind.i64 0),Cell.zc],Sh.struct [(0,1,9),(1,8,35)]⟩:=by kernel_rfl
attribute [go_sem] m45
theorem w47 {k:TI->OR}:zl2 prog 47 k=k ⟨1,24,[Cell.zc],Sh.slice 51 6 48 none⟩:=yr7 (by kernel_rfl)
theorem m47:mkTI prog 47=some ⟨1,24,[Cell.zc],Sh.slice 51 6 48 none⟩:=by kernel_rfl
attribute [go_sem ↓] w47
attribute [go_sem] m47
theorem w48 {k:TI->OR}:zl2 prog 48 k=k ⟨1,24,[Cell.zc],Sh.slice 53 7 64 none⟩:=yr7 (by kernel_rfl)
theorem m48:mkTI prog 48=some ⟨1,24,[Cell.zc],Sh.slice 53 7 64 none⟩:=by kernel_rfl
attribute [go_sem ↓] w48
attribute [go_sem] m48
theorem m51:mkTI prog 51=some ⟨6,48,[Cell.raw (Value.int IntKind.i64 0),Cell.raw (Value.int IntKind.i64 0),Cell.raw (Value.int IntKind.i64 0),Cell.raw (Value.int IntKind.i64 0),Cell.raw (Value.int IntKind.i64 0),Cell.raw (Value.int IntKind.i64 0)],Sh.array 6 3 1⟩:=by kernel_rfl
attribute [go_sem] m51
theorem z51:w2m prog 51=some (SV.agg [HC.dat (Cell.raw (Value.int IntKind.i64 0)),HC.dat (Cell.raw (Value.int IntKind.i64 0)),HC.dat (Cell.raw (Value.int IntKind.i64 0)),HC.dat (Cell.raw (Value.int IntKind.i64 0)),HC.dat (Cell.raw (Value.int IntKind.i64 0)),HC.dat (Cell.raw (Value.int IntKind.i64 0))]):=by kernel_rfl
attribute [go_sem] z51
theorem m53:mkTI prog 53=some ⟨7,64,[Cell.raw (Value.string ⟨⟨[]⟩⟩),Cell.raw (Value.int IntKind.i64 0),Cell.raw (Value.int IntKind.i64 0),Cell.raw (Value.int IntKind.i64 0),Cell.raw (Value.int IntKind.i64 0),Cell.raw (Value.int IntKind.i64 0),Cell.raw (Value.int IntKind.i64 0)],Sh.struct [(0,1,9),(1,6,51)]⟩:=by kernel_rfl
attribute [go_sem] m53
theorem m55:mkTI prog 55=some ⟨7,56,[Cell.raw (Value.bool false),Cell.raw (Value.int IntKind.i64 0),Cell.raw (Value.int IntKind.i64 0),Cell.raw (Value.int IntKind.i64 0),Cell.raw (Value.int IntKind.i64 0),Cell.raw (Value.int IntKind.i64 0),Cell.raw (Value.int IntKind.i64 0)],Sh.struct [(0,1,4),(1,6,51)]⟩:=by kernel_rfl
attribute [go_sem] m55
theorem w59 {k:TI->OR}:zl2 prog 59 k=k ⟨1,24,[Cell.zc],Sh.slice 33 4 64 none⟩:=yr7 (by kernel_rfl)
theorem m59:mkTI prog 59=some ⟨1,24,[Cell.zc],Sh.slice 33 4 64 none⟩:=by kernel_rfl
attribute [go_sem ↓] w59
attribute [go_sem] m59
theorem w60 {k:TI->OR}:zl2 prog 60 k=k ⟨1,24,[Cell.zc],Sh.slice 64 5 80 none⟩:=yr7 (by kernel_rfl)
theorem m60:mkTI prog 60=some ⟨1,24,[Cell.zc],Sh.slice 64 5 80 none⟩:=by kernel_rfl
attribute [go_sem ↓] w60
attribute [go_sem] m60
theorem m64:mkTI prog 64=some ⟨5,80,[Cell.raw (Value.string ⟨⟨[]⟩⟩),Cell.raw (Value.int IntKind.i64 0),Cell.zc,Cell.raw (Value.int IntKind.i64 0),Cell.zc],Sh.struct [(0,1,9),(1,4,33)]⟩:=by kernel_rfl
attribute [go_sem] m64
theorem m66:mkTI prog 66=some ⟨6,72,[Cell.raw (Value.bool false),Cell.raw (Value.bool false),Cell.raw (Value.int IntKind.i64 0),Cell.zc,Cell.raw (Value.int IntKind.i64 0),Cell.zc],Sh.struct [(0,1,4),(1,1,4),(2,4,33)]⟩:=by kernel_rfl
attribute [go_sem] m66
theorem m89:mkTI prog 89=some ⟨11,136,[Cell.raw (Value.bool false),Cell.raw (Value.bool false),Cell.raw (Value.bool false),Cell.raw (Value.int IntKind.i64 0),Cell.zc,Cell.raw (Value.int IntKind.i64 0),Cell.zc,Cell.raw (Value.int IntKind.i64 0),Cell.zc,Cell.raw (Value.int IntKind.i64 0),Cell.zc],Sh.struct [(0,1,4),(1,1,4),(2,1,4),(3,8,35)]⟩:=by kernel_rfl
attribute [go_sem] m89
theorem m101:mkTI prog 101=some ⟨1,8,[Cell.raw (Value.map none)],Sh.map 9 51⟩:=by kernel_rfl
attribute [go_sem] m101
theorem m103:mkTI prog 103=some ⟨2,16,[Cell.raw (Value.map none),Cell.raw (Value.map none)],Sh.struct [(0,1,101),(1,1,101)]⟩:=by kernel_rfl
attribute [go_sem] m103
theorem m107:mkTI prog 107=some ⟨1,8,[Cell.raw (Value.map none)],Sh.map 9 33⟩:=by kernel_rfl
attribute [go_sem] m107
theorem m108:mkTI prog 108=some ⟨1,8,[Cell.raw (Value.map none)],Sh.map 9 122⟩:=by kernel_rfl
attribute [go_sem] m108
theorem m110:mkTI prog 110=some ⟨2,16,[Cell.raw (Value.map none),Cell.raw (Value.map none)],Sh.struct [(0,1,107),(1,1,108)]⟩:=by kernel_rfl
attribute [go_sem] m110
theorem m119:mkTI prog 119=some ⟨2,16,[Cell.raw (Value.int IntKind.i64 0),Cell.raw (Value.int IntKind.i64 0)],Sh.struct [(0,1,3),(1,1,3)]⟩:=by kernel_rfl
attribute [go_sem] m119
theorem w120 {k:TI->OR}:zl2 prog 120 k=k ⟨1,24,[Cell.zc],Sh.slice 119 2 16 none⟩:=yr7 (by kernel_rfl)
theorem m120:mkTI prog 120=some ⟨1,24,[Cell.zc],Sh.slice 119 2 16 none⟩:=by kernel_rfl
attribute [go_sem ↓] w120
attribute [go_sem] m120
theorem m122:mkTI prog 122=some ⟨3,56,[Cell.raw (Value.string ⟨⟨[]⟩⟩),Cell.raw (Value.string ⟨⟨[]⟩⟩),Cell.zc],Sh.struct [(0,1,9),(1,1,9),(2,1,120)]⟩:=by kernel_rfl
attribute [go_sem] m122
theorem z122:w2m prog 122=some (SV.agg [HC.dat (Cell.raw (Value.string ⟨⟨[]⟩⟩)),HC.dat (Cell.raw (Value.string ⟨⟨[]⟩⟩)),HC.dat Cell.zc]):=by kernel_rfl
attribute [go_sem] z122
theorem m124:mkTI prog 124=some ⟨1,8,[Cell.raw (Value.map none)],Sh.map 9 35⟩:=by kernel_rfl
attribute [go_sem] m124
theorem m126:mkTI prog 126=some ⟨2,16,[Cell.raw (Value.map none),Cell.raw (Value.map none)],Sh.struct [(0,1,124),(1,1,108)]⟩:=by kernel_rfl
attribute [go_sem] m126
theorem m143:mkTI prog 143=some ⟨10,112,[Cell.raw (Value.int IntKind.i64 0),Cell.raw (Value.int IntKind.i64 0),Cell.raw (Value.int IntKind.i64 0),Cell.raw (Value.int IntKind.i64 0),Cell.raw (Value.int IntKind.i64 0),Cell.raw (Value.int IntKind.i64 0),Cell.raw (Value.int IntKind.i64 0),Cell.zc,Cell.raw (Value.int IntKind.i64 0),Cell.zc],Sh.struct [(0,6,51),(6,4,33)]⟩:=by kernel_rfl
attribute [go_sem] m143
theorem w148 {k:TI->OR}:zl2 prog 148 k=k ⟨1,24,[Cell.zc],Sh.slice 55 7 56 none⟩:=yr7 (by kernel_rfl)
theorem m148:mkTI prog 148=some ⟨1,24,[Cell.zc],Sh.slice 55 7 56 none⟩:=by kernel_rfl
attribute [go_sem ↓] w148
attribute [go_sem] m148
theorem w154 {k:TI->OR}:zl2 prog 154 k=k ⟨1,24,[Cell.zc],Sh.slice 66 6 72 none⟩:=yr7 (by kernel_rfl)
theorem m154:mkTI prog 154=some ⟨1,24,[Cell.zc],Sh.slice 66 6 72 none⟩:=by kernel_rfl
attribute [go_sem ↓] w154
attribute [go_sem] m154
theorem w162 {k:TI->OR}:zl2 prog 162 k=k ⟨1,8,[Cell.raw (Value.int IntKind.u64 0)],Sh.int IntKind.u64⟩:=yr7 (by kernel_rfl)
theorem m162:mkTI prog 162=some ⟨1,8,[Cell.raw (Value.int IntKind.u64 0)],Sh.int IntKind.u64⟩:=by kernel_rfl
attribute [go_sem ↓] w162
attribute [go_sem] m162
theorem w163 {k:TI->OR}:zl2 prog 163 k=k ⟨1,8,[Cell.raw (Value.int IntKind.u64 0)],Sh.int IntKind.u64⟩:=yr7 (by kernel_rfl)
attribute [go_sem ↓] w163
theorem u163:prog.underlying 163=some (TypeDesc.int IntKind.u64):=by kernel_rfl
attribute [go_sem] u163
theorem w166 {k:TI->OR}:zl2 prog 166 k=k ⟨1,24,[Cell.zc],Sh.slice 89 11 136 none⟩:=yr7 (by kernel_rfl)
theorem m166:mkTI prog 166=some ⟨1,24,[Cell.zc],Sh.slice 89 11 136 none⟩:=by kernel_rfl
attribute [go_sem ↓] w166
attribute [go_sem] m166
theorem w188 {k:TI->OR}:zl2 prog 188 k=k ⟨1,24,[Cell.zc],Sh.slice 192 2 24 none⟩:=yr7 (by kernel_rfl)
theorem m188:mkTI prog 188=some ⟨1,24,[Cell.zc],Sh.slice 192 2 24 none⟩:=by kernel_rfl
attribute [go_sem ↓] w188
attribute [go_sem] m188
theorem m192:mkTI prog 192=some ⟨2,24,[Cell.raw (Value.string ⟨⟨[]⟩⟩),Cell.raw (Value.int IntKind.i64 0)],Sh.struct [(0,1,9),(1,1,3)]⟩:=by kernel_rfl
attribute [go_sem] m192
theorem m257:mkTI prog 257=some ⟨1,8,[Cell.raw (Value.pointer none)],Sh.cell⟩:=by kernel_rfl
attribute [go_sem] m257
theorem z0t:xe1 prog 257=some 260:=by kernel_rfl
attribute [go_sem] z0t
theorem u257:prog.underlying 257=some (TypeDesc.pointer 260):=by kernel_rfl
attribute [go_sem] u257
theorem m258:mkTI prog 258=some ⟨1,24,[Cell.zc],Sh.slice 5 1 1 (some IntKind.u8)⟩:=by kernel_rfl
attribute [go_sem] m258
theorem m260:mkTI prog 260=some ⟨2,32,[Cell.raw (Value.pointer none),Cell.zc],Sh.struct [(0,1,257),(1,1,258)]⟩:=by kernel_rfl
attribute [go_sem] m260
theorem ysv:xe1 prog 269=some 5:=by kernel_rfl
attribute [go_sem] ysv
theorem u270:prog.underlying 270=some TypeDesc.unsafePointer:=by kernel_rfl
attribute [go_sem] u270
theorem vsk:prog.info? 260=some (zj0 prog 260):=by kernel_rfl
attribute [go_sem] vsk
theorem xfs:((zj0 prog 260).size != 0)=true:=by kernel_rfl
attribute [go_sem] xfs
theorem e0:wp2 prog 0=false:=by kernel_rfl
attribute [go_sem] e0
theorem e1:wp2 prog 1=false:=by kernel_rfl
attribute [go_sem] e1
theorem e2:wp2 prog 2=false:=by kernel_rfl
attribute [go_sem] e2
theorem e3:wp2 prog 3=false:=by kernel_rfl
attribute [go_sem] e3
theorem e4:wp2 prog 4=false:=by kernel_rfl
attribute [go_sem] e4
theorem e5:wp2 prog 5=false:=by kernel_rfl
attribute [go_sem] e5
theorem e6:wp2 prog 6=false:=by kernel_rfl
attribute [go_sem] e6
theorem e7:wp2 prog 7=false:=by kernel_rfl
attribute [go_sem] e7
theorem e9:wp2 prog 9=false:=by kernel_rfl
attribute [go_sem] e9
theorem e10:wp2 prog 10=false:=by kernel_rfl
attribute [go_sem] e10
theorem e11:wp2 prog 11=false:=by kernel_rfl
attribute [go_sem] e11
theorem e13:wp2 prog 13=false:=by kernel_rfl
attribute [go_sem] e13
theorem e14:wp2 prog 14=false:=by kernel_rfl
attribute [go_sem] e14
theorem e15:wp2 prog 15=false:=by kernel_rfl
attribute [go_sem] e15
theorem e16:wp2 prog 16=false:=by kernel_rfl
attribute [go_sem] e16
theorem e17:wp2 prog 17=false:=by kernel_rfl
attribute [go_sem] e17
theorem e18:wp2 prog 18=false:=by kernel_rfl
attribute [go_sem] e18
theorem e19:wp2 prog 19=false:=by kernel_rfl
attribute [go_sem] e19
theorem e20:wp2 prog 20=false:=by kernel_rfl
attribute [go_sem] e20
theorem e21:wp2 prog 21=false:=by kernel_rfl
attribute [go_sem] e21
theorem e22:wp2 prog 22=false:=by kernel_rfl
attribute [go_sem] e22
theorem e23:wp2 prog 23=false:=by kernel_rfl
attribute [go_sem] e23
theorem e26:wp2 prog 26=false:=by kernel_rfl
attribute [go_sem] e26
theorem e27:wp2 prog 27=false:=by kernel_rfl
attribute [go_sem] e27
theorem e28:wp2 prog 28=false:=by kernel_rfl
attribute [go_sem] e28
theorem e29:wp2 prog 29=false:=by kernel_rfl
attribute [go_sem] e29
theorem e30:wp2 prog 30=false:=by kernel_rfl
attribute [go_sem] e30
theorem e31:wp2 prog 31=false:=by kernel_rfl
attribute [go_sem] e31
theorem e32:wp2 prog 32=false:=by kernel_rfl
attribute [go_sem] e32
theorem e33:wp2 prog 33=false:=by kernel_rfl
attribute [go_sem] e33
theorem e34:wp2 prog 34=false:=by kernel_rfl
attribute [go_sem] e34
theorem e35:wp2 prog 35=false:=by kernel_rfl
attribute [go_sem] e35
theorem e36:wp2 prog 36=false:=by kernel_rfl
attribute [go_sem] e36
theorem e37:wp2 prog 37=false:=by kernel_rfl
attribute [go_sem] e37
theorem e38:wp2 prog 38=false:=by kernel_rfl
attribute [go_sem] e38
theorem e39:wp2 prog 39=false:=by kernel_rfl
attribute [go_sem] e39
theorem e40:wp2 prog 40=false:=by kernel_rfl
attribute [go_sem] e40
theorem e43:wp2 prog 43=false:=by kernel_rfl
attribute [go_sem] e43
theorem e44:wp2 prog 44=false:=by kernel_rfl
attribute [go_sem] e44
theorem e45:wp2 prog 45=false:=by kernel_rfl
attribute [go_sem] e45
theorem e46:wp2 prog 46=false:=by kernel_rfl
attribute [go_sem] e46
theorem e47:wp2 prog 47=false:=by kernel_rfl
attribute [go_sem] e47
theorem e48:wp2 prog 48=false:=by kernel_rfl
attribute [go_sem] e48
theorem e49:wp2 prog 49=false:=by kernel_rfl
attribute [go_sem] e49
theorem e50:wp2 prog 50=false:=by kernel_rfl
attribute [go_sem] e50
theorem e51:wp2 prog 51=false:=by kernel_rfl
attribute [go_sem] e51
theorem e52:wp2 prog 52=false:=by kernel_rfl
attribute [go_sem] e52
theorem e53:wp2 prog 53=false:=by kernel_rfl
attribute [go_sem] e53
theorem e54:wp2 prog 54=false:=by kernel_rfl
attribute [go_sem] e54
theorem e55:wp2 prog 55=false:=by kernel_rfl
attribute [go_sem] e55
theorem e56:wp2 prog 56=false:=by kernel_rfl
attribute [go_sem] e56
theorem e57:wp2 prog 57=false:=by kernel_rfl
attribute [go_sem] e57
theorem e58:wp2 prog 58=false:=by kernel_rfl
attribute [go_sem] e58
theorem e59:wp2 prog 59=false:=by kernel_rfl
attribute [go_sem] e59
theorem e60:wp2 prog 60=false:=by kernel_rfl
attribute [go_sem] e60
theorem e61:wp2 prog 61=false:=by kernel_rfl
attribute [go_sem] e61
theorem e62:wp2 prog 62=false:=by kernel_rfl
attribute [go_sem] e62
theorem e69:wp2 prog 69=false:=by kernel_rfl
attribute [go_sem] e69
theorem e70:wp2 prog 70=false:=by kernel_rfl
attribute [go_sem] e70
theorem e71:wp2 prog 71=false:=by kernel_rfl
attribute [go_sem] e71
theorem e73:wp2 prog 73=false:=by kernel_rfl
attribute [go_sem] e73
theorem e74:wp2 prog 74=false:=by kernel_rfl
attribute [go_sem] e74
theorem e75:wp2 prog 75=false:=by kernel_rfl
attribute [go_sem] e75
theorem e76:wp2 prog 76=false:=by kernel_rfl
attribute [go_sem] e76
theorem e77:wp2 prog 77=false:=by kernel_rfl
attribute [go_sem] e77
theorem e78:wp2 prog 78=false:=by kernel_rfl
attribute [go_sem] e78
theorem e79:wp2 prog 79=false:=by kernel_rfl
attribute [go_sem] e79
theorem e80:wp2 prog 80=false:=by kernel_rfl
attribute [go_sem] e80
theorem e81:wp2 prog 81=false:=by kernel_rfl
attribute [go_sem] e81
theorem e82:wp2 prog 82=false:=by kernel_rfl
attribute [go_sem] e82
theorem e83:wp2 prog 83=false:=by kernel_rfl
attribute [go_sem] e83
theorem e84:wp2 prog 84=false:=by kernel_rfl
attribute [go_sem] e84
theorem e85:wp2 prog 85=false:=by kernel_rfl
attribute [go_sem] e85
theorem e86:wp2 prog 86=false:=by kernel_rfl
attribute [go_sem] e86
theorem e87:wp2 prog 87=false:=by kernel_rfl
attribute [go_sem] e87
theorem e88:wp2 prog 88=false:=by kernel_rfl
attribute [go_sem] e88
theorem e89:wp2 prog 89=false:=by kernel_rfl
attribute [go_sem] e89
theorem e90:wp2 prog 90=false:=by kernel_rfl
attribute [go_sem] e90
theorem e93:wp2 prog 93=false:=by kernel_rfl
attribute [go_sem] e93
theorem e94:wp2 prog 94=false:=by kernel_rfl
attribute [go_sem] e94
theorem e96:wp2 prog 96=false:=by kernel_rfl
attribute [go_sem] e96
theorem e97:wp2 prog 97=false:=by kernel_rfl
attribute [go_sem] e97
theorem e98:wp2 prog 98=false:=by kernel_rfl
attribute [go_sem] e98
theorem e99:wp2 prog 99=false:=by kernel_rfl
attribute [go_sem] e99
theorem e100:wp2 prog 100=false:=by kernel_rfl
attribute [go_sem] e100
theorem e101:wp2 prog 101=false:=by kernel_rfl
attribute [go_sem] e101
theorem e102:wp2 prog 102=false:=by kernel_rfl
attribute [go_sem] e102
theorem e103:wp2 prog 103=false:=by kernel_rfl
attribute [go_sem] e103
theorem e121:wp2 prog 121=false:=by kernel_rfl
attribute [go_sem] e121
theorem e122:wp2 prog 122=false:=by kernel_rfl
attribute [go_sem] e122
theorem e123:wp2 prog 123=false:=by kernel_rfl
attribute [go_sem] e123
theorem e124:wp2 prog 124=false:=by kernel_rfl
attribute [go_sem] e124
theorem e126:wp2 prog 126=false:=by kernel_rfl
attribute [go_sem] e126
theorem e127:wp2 prog 127=false:=by kernel_rfl
attribute [go_sem] e127
theorem e128:wp2 prog 128=false:=by kernel_rfl
attribute [go_sem] e128
theorem e129:wp2 prog 129=false:=by kernel_rfl
attribute [go_sem] e129
theorem e130:wp2 prog 130=false:=by kernel_rfl
attribute [go_sem] e130
theorem e131:wp2 prog 131=false:=by kernel_rfl
attribute [go_sem] e131
theorem e132:wp2 prog 132=false:=by kernel_rfl
attribute [go_sem] e132
theorem e133:wp2 prog 133=false:=by kernel_rfl
attribute [go_sem] e133
theorem e134:wp2 prog 134=false:=by kernel_rfl
attribute [go_sem] e134
theorem e135:wp2 prog 135=false:=by kernel_rfl
attribute [go_sem] e135
theorem e137:wp2 prog 137=false:=by kernel_rfl
attribute [go_sem] e137
theorem e138:wp2 prog 138=false:=by kernel_rfl
attribute [go_sem] e138
theorem e139:wp2 prog 139=false:=by kernel_rfl
attribute [go_sem] e139
theorem e140:wp2 prog 140=false:=by kernel_rfl
attribute [go_sem] e140
theorem e141:wp2 prog 141=false:=by kernel_rfl
attribute [go_sem] e141
theorem e142:wp2 prog 142=false:=by kernel_rfl
attribute [go_sem] e142
theorem e147:wp2 prog 147=false:=by kernel_rfl
attribute [go_sem] e147
theorem e148:wp2 prog 148=false:=by kernel_rfl
attribute [go_sem] e148
theorem e149:wp2 prog 149=false:=by kernel_rfl
attribute [go_sem] e149
theorem e150:wp2 prog 150=false:=by kernel_rfl
attribute [go_sem] e150
theorem e151:wp2 prog 151=false:=by kernel_rfl
attribute [go_sem] e151
theorem e152:wp2 prog 152=false:=by kernel_rfl
attribute [go_sem] e152
theorem e153:wp2 prog 153=false:=by kernel_rfl
attribute [go_sem] e153
theorem e154:wp2 prog 154=false:=by kernel_rfl
attribute [go_sem] e154
theorem e155:wp2 prog 155=false:=by kernel_rfl
attribute [go_sem] e155
theorem e156:wp2 prog 156=false:=by kernel_rfl
attribute [go_sem] e156
theorem e176:wp2 prog 176=false:=by kernel_rfl
attribute [go_sem] e176
theorem e177:wp2 prog 177=false:=by kernel_rfl
attribute [go_sem] e177
theorem e178:wp2 prog 178=false:=by kernel_rfl
attribute [go_sem] e178
theorem e179:wp2 prog 179=false:=by kernel_rfl
attribute [go_sem] e179
theorem e180:wp2 prog 180=false:=by kernel_rfl
attribute [go_sem] e180
theorem e181:wp2 prog 181=false:=by kernel_rfl
attribute [go_sem] e181
theorem e182:wp2 prog 182=false:=by kernel_rfl
attribute [go_sem] e182
theorem e183:wp2 prog 183=false:=by kernel_rfl
attribute [go_sem] e183
theorem e184:wp2 prog 184=false:=by kernel_rfl
attribute [go_sem] e184
theorem e187:wp2 prog 187=false:=by kernel_rfl
attribute [go_sem] e187
theorem e190:wp2 prog 190=false:=by kernel_rfl
attribute [go_sem] e190
theorem e191:wp2 prog 191=false:=by kernel_rfl
attribute [go_sem] e191
theorem e192:wp2 prog 192=false:=by kernel_rfl
attribute [go_sem] e192
theorem e193:wp2 prog 193=false:=by kernel_rfl
attribute [go_sem] e193
theorem e194:wp2 prog 194=false:=by kernel_rfl
attribute [go_sem] e194
theorem e196:wp2 prog 196=false:=by kernel_rfl
attribute [go_sem] e196
theorem e221:wp2 prog 221=false:=by kernel_rfl
attribute [go_sem] e221
theorem e222:wp2 prog 222=false:=by kernel_rfl
attribute [go_sem] e222
theorem e223:wp2 prog 223=false:=by kernel_rfl
attribute [go_sem] e223
theorem e224:wp2 prog 224=false:=by kernel_rfl
attribute [go_sem] e224
theorem e225:wp2 prog 225=false:=by kernel_rfl
attribute [go_sem] e225
theorem e226:wp2 prog 226=false:=by kernel_rfl
attribute [go_sem] e226
theorem e227:wp2 prog 227=false:=by kernel_rfl
attribute [go_sem] e227
theorem e228:wp2 prog 228=false:=by kernel_rfl
attribute [go_sem] e228
theorem e229:wp2 prog 229=false:=by kernel_rfl
attribute [go_sem] e229
theorem e231:wp2 prog 231=false:=by kernel_rfl
attribute [go_sem] e231
theorem e249:wp2 prog 249=false:=by kernel_rfl
attribute [go_sem] e249
theorem e250:wp2 prog 250=false:=by kernel_rfl
attribute [go_sem] e250
theorem e251:wp2 prog 251=false:=by kernel_rfl
attribute [go_sem] e251
theorem e261:wp2 prog 261=false:=by kernel_rfl
attribute [go_sem] e261
theorem e262:wp2 prog 262=true:=by kernel_rfl
attribute [go_sem] e262
theorem mixed:prog.follows .mixedOrders=true:=by kernel_rfl
theorem wvv {k:Bool->Prop}:va1 prog k=k true:=propext ⟨fun h=>h.2,fun h=>⟨mixed,h⟩⟩
theorem wx2 {k:Bool->Prop}:vk0 prog k=k true:=propext ⟨fun h=>h.2,fun h=>⟨mixed,h⟩⟩
attribute [go_sem] wvv wx2
end Go.Slot.T
namespace Go.Hp
open Go Go.RowKit Go.Slot
variable {P:Program} {Γ:List (Nat×List Cell)} {e:List SB} {G:List (Nat×List GhH)}
theorem vtf {p:Prop} [Decidable p] {X Y:Bool->Prop} (hx:p->decide p=true->X true) (hy:¬p->decide p=false->Y true):x4q (decide p) true X Y:=⟨fun h=>hx (of_decide_eq_true h) h,fun h=>hy (of_decide_eq_false h) h⟩
theorem yjm {p:Prop} [Decidable p] {X Y:Bool->Prop} (hx:¬p->decide p=false->X true) (hy:p->decide p=true->Y true):x4q (decide p) false X Y:=⟨fun h=>hx (of_decide_eq_false h) h,fun h=>hy (of_decide_eq_true h) h⟩
theorem zbb {c:Bool} {X Y:Bool->Prop} (hx:c=true->X true) (hy:c=false->Y true):x4q c true X Y:=⟨hx,hy⟩
theorem v1z {c:Bool} {X Y:Bool->Prop} (hx:c=false->X true) (hy:c=true->Y true):x4q c false X Y:=⟨hx,hy⟩
theorem vnx {p:Prop} [Decidable p] {X Y:Bool->Prop} (hx:p->decide p=true->X true) (hy:¬p->decide p=false->Y true):x29 (decide p) X Y:=⟨fun h=>hx (of_decide_eq_true h) h,fun h=>hy (of_decide_eq_false h) h⟩
theorem wdg {c:Bool} {X Y:Bool->Prop} (hx:c=true->X true) (hy:c=false->Y true):x29 c X Y:=⟨hx,hy⟩
theorem vpb {c:Bool} {X Y:Bool->Prop} (hx:c=false->X true) (hy:c=true->Y true):x4q (!c) true X Y:=⟨fun h=>hx (by simpa using h),fun h=>hy (by simpa using h)⟩
theorem v1v {c:Bool} {X Y:Bool->Prop} (hx:c=true->X true) (hy:c=false->Y true):x4q (!c) false X Y:=⟨fun h=>hx (by simpa using h),fun h=>hy (by simpa using h)⟩
theorem wzf {c:Bool} {X Y:Bool->Prop} (hx:c=false->X true) (hy:c=true->Y true):x29 (!c) X Y:=⟨fun h=>hx (by simpa using h),fun h=>hy (by simpa using h)⟩
theorem hg {p q:Prop} (k:q) (h:p=q:=by conv=>lhs;simp (maxSteps:=2000000) (disch:=omega) only [go_sem,Nat.reduceAdd,Nat.reduceSub,Nat.reduceMul,Int.reduceToNat,Nat.reduceEqDiff,Nat.reduceBEq,Nat.reduceBneDiff,Nat.reduceLT,Int.reduceEq,Int.reduceLT,Int.reduceLE,Int.reduceNeg,Int.reduceAdd,Int.reduceSub,Int.reduceMul]):p:=Eq.mpr h k
theorem hgS {p q:Prop} (k:q) (h:p=q:=by conv=>lhs;simp (maxSteps:=2000000) (disch:=omega) only [go_sem,Nat.reduceAdd,Nat.reduceSub,Nat.reduceMul,Int.reduceToNat,Nat.reduceEqDiff,Nat.reduceBEq,Nat.reduceBneDiff,Nat.reduceLT,Int.reduceEq,Int.reduceLT,Int.reduceLE,Int.reduceNeg,Int.reduceAdd,Int.reduceSub,Int.reduceMul, *]):p:=Eq.mpr h k
theorem hgR {p q:Prop} (k:q) (h:p=q:=by conv=>lhs;simp (maxSteps:=2000000) (disch:=omega) only [go_sem,Nat.reduceAdd,Nat.reduceSub,Nat.reduceMul,Int.reduceToNat,Nat.reduceEqDiff,Nat.reduceBEq,Nat.reduceBneDiff,Nat.reduceLT,Int.reduceEq,Int.reduceLT,Int.reduceLE,Int.reduceNeg,Int.reduceAdd,Int.reduceSub,Int.reduceMul,List.replicate]):p:=Eq.mpr h k
theorem hfk {p q r:Prop} (k:q) (l:r) (h:q->r->p:=by with_reducible first | exact fun a b=>vtf a b | exact fun a b=>yjm a b | exact fun a b=>vpb a b | exact fun a b=>v1v a b | exact fun a b=>zbb a b | exact fun a b=>v1z a b | exact fun a b=>vnx a b | exact fun a b=>wzf a b | exact fun a b=>wdg a b):p:=h k l
theorem hik {ops:List Oper} {acc:List HR} {k:Bool->Prop} (hk:k true) (h:wfm ops acc=true:=by kernel_rfl):ybj ops acc k:=⟨h,hk⟩
theorem svl {a b:List SV} (h:vma a b:=by repeat' first | exact .nil | refine .cons (by first | exact .refl _ | exact .any _) ?_):vma a b:=h
theorem RLe.ofEq {x y:AV} (h:x=y):RLe x y:=h▸.one (.refl _)
theorem wgp {p:Prop} [Decidable p]:(!decide p)=decide (¬p):=by by_cases h:p<;>simp [h]
theorem lfE {x y:AV} {p:Prop} (k:p) (h:(x=y)=p:=by conv=>lhs;simp only [Bool.and_true,Bool.true_and,Bool.and_false,Bool.false_and,Bool.or_true,Bool.true_or,Bool.or_false,Bool.false_or,Bool.not_true,Bool.not_false,decide_true,decide_false,not_true_eq_false,not_false_eq_true,wgp,if_true,if_false,Bool.and_self,Bool.or_self,cond_true,cond_false,List.length_map,ne_eq,Int.reduceEq,Int.reduceLT,Int.reduceLE, *]):RLe x y:=RLe.ofEq (h.symm▸k)
theorem lf1 {x y:AV} {a p:Prop} (ra:a) (k:p) (h:a->(x=y)=p:=by intro z1;conv=>lhs;simp only [Bool.and_true,Bool.true_and,Bool.and_false,Bool.false_and,Bool.or_true,Bool.true_or,Bool.or_false,Bool.false_or,Bool.not_true,Bool.not_false,decide_true,decide_false,not_true_eq_false,not_false_eq_true,wgp,if_true,if_false,Bool.and_self,Bool.or_self,cond_true,cond_false,List.length_map,ne_eq,Int.reduceEq,Int.reduceLT,Int.reduceLE, *]):RLe x y:=RLe.ofEq ((h ra).symm▸k)
theorem lf2 {x y:AV} {a b p:Prop} (ra:a) (rb:b) (k:p) (h:a->b->(x=y)=p:=by intro z1 z2;conv=>lhs;simp only [Bool.and_true,Bool.true_and,Bool.and_false,Bool.false_and,Bool.or_true,Bool.true_or,Bool.or_false,Bool.false_or,Bool.not_true,Bool.not_false,decide_true,decide_false,not_true_eq_false,not_false_eq_true,wgp,if_true,if_false,Bool.and_self,Bool.or_self,cond_true,cond_false,List.length_map,ne_eq,Int.reduceEq,Int.reduceLT,Int.reduceLE, *]):RLe x y:=RLe.ofEq ((h ra rb).symm▸k)
theorem bsE {q p:Prop} (k:p) (h:q=p:=by conv=>lhs;simp only [Bool.and_true,Bool.true_and,Bool.and_false,Bool.false_and,Bool.or_true,Bool.true_or,Bool.or_false,Bool.false_or,Bool.not_true,Bool.not_false,decide_true,decide_false,not_true_eq_false,not_false_eq_true,wgp,if_true,if_false,Bool.and_self,Bool.or_self,cond_true,cond_false,List.length_map,ne_eq,Int.reduceEq,Int.reduceLT,Int.reduceLE, *]):q:=h.symm▸k
theorem bs1 {a q p:Prop} (ra:a) (k:p) (h:a->q=p:=by intro z1;conv=>lhs;simp only [Bool.and_true,Bool.true_and,Bool.and_false,Bool.false_and,Bool.or_true,Bool.true_or,Bool.or_false,Bool.false_or,Bool.not_true,Bool.not_false,decide_true,decide_false,not_true_eq_false,not_false_eq_true,wgp,if_true,if_false,Bool.and_self,Bool.or_self,cond_true,cond_false,List.length_map,ne_eq,Int.reduceEq,Int.reduceLT,Int.reduceLE, *]):q:=(h ra).symm▸k
theorem bs2 {a b q p:Prop} (ra:a) (rb:b) (k:p) (h:a->b->q=p:=by intro z1 z2;conv=>lhs;simp only [Bool.and_true,Bool.true_and,Bool.and_false,Bool.false_and,Bool.or_true,Bool.true_or,Bool.or_false,Bool.false_or,Bool.not_true,Bool.not_false,decide_true,decide_false,not_true_eq_false,not_false_eq_true,wgp,if_true,if_false,Bool.and_self,Bool.or_self,cond_true,cond_false,List.length_map,ne_eq,Int.reduceEq,Int.reduceLT,Int.reduceLE, *]):q:=(h ra rb).symm▸k
theorem hg1 {a p q:Prop} (ra:a) (k:q) (h:a->p=q:=by intro z1;conv=>lhs;simp (maxSteps:=2000000) (disch:=omega) only [go_sem,Nat.reduceAdd,Nat.reduceSub,Nat.reduceMul,Int.reduceToNat,Nat.reduceEqDiff,Nat.reduceBEq,Nat.reduceBneDiff,Nat.reduceLT,Int.reduceEq,Int.reduceLT,Int.reduceLE,Int.reduceNeg,Int.reduceAdd,Int.reduceSub,Int.reduceMul,z1]):p:=Eq.mpr (h ra) k
theorem hg2 {a b p q:Prop} (ra:a) (rb:b) (k:q) (h:a->b->p=q:=by intro z1 z2;conv=>lhs;simp (maxSteps:=2000000) (disch:=omega) only [go_sem,Nat.reduceAdd,Nat.reduceSub,Nat.reduceMul,Int.reduceToNat,Nat.reduceEqDiff,Nat.reduceBEq,Nat.reduceBneDiff,Nat.reduceLT,Int.reduceEq,Int.reduceLT,Int.reduceLE,Int.reduceNeg,Int.reduceAdd,Int.reduceSub,Int.reduceMul,z1,z2]):p:=Eq.mpr (h ra rb) k
theorem hg3 {a b c p q:Prop} (ra:a) (rb:b) (rc:c) (k:q) (h:a->b->c->p=q:=by intro z1 z2 z3;conv=>lhs;simp (maxSteps:=2000000) (disch:=omega) only [go_sem,Nat.reduceAdd,Nat.reduceSub,Nat.reduceMul,Int.reduceToNat,Nat.reduceEqDiff,Nat.reduceBEq,Nat.reduceBneDiff,Nat.reduceLT,Int.reduceEq,Int.reduceLT,Int.reduceLE,Int.reduceNeg,Int.reduceAdd,Int.reduceSub,Int.reduceMul,z1,z2,z3]):p:=Eq.mpr (h ra rb rc) k
def swL (i j:Nat) (η:List SB):List SB:=(List.range η.length).map fun k=>swSB i j (gB η (sw i j k))
theorem wny {i j k n:Nat} (hi:i<n) (hj:j<n) (hk:k<n):sw i j k<n:=by unfold sw;split<;>(try split)<;>omega
theorem StH.xn2 {σ:List SV} {η:List SB} {i j:Nat} (hi:e.length<=i) (hj:e.length<=j) (hil:i<η.length) (hjl:j<η.length):StH Γ e σ η (σ.map (swSV i j)) (swL i j η):=by
 refine StH.swap hi hj hil hjl (fun b x hb=>.inl ?_) (by simp [swL]);have hbl:b<η.length:=(List.getElem?_eq_some_iff.1 hb).1;unfold swL;rw [List.getElem?_map,List.getElem?_range (wny hil hjl hbl)];simp only [Option.map_some,xft];unfold gB;rw [hb];rfl
def x2g (m:Nat) (σ:List SV) (η:List SB):Bool:=(σ.all fun x=>(vp6 x).all fun b=>Nat.blt b m)&&((η.take m).all fun x=>(z0y x).all fun b=>Nat.blt b m)
theorem StH.cutB {σ:List SV} {η:List SB} (m:Nat) (hm:e.length<=m) (h:x2g m σ η=true):StH Γ e σ η σ (η.take m):=by
 unfold x2g at h;rw [Bool.and_eq_true,List.all_eq_true,List.all_eq_true] at h;refine StH.cut hm (fun i x hx b hb=>?_) (fun i x hi hx=>.inr fun b hb=>?_)
 . have:=h.1 x (List.mem_of_getElem? hx)
   rw [List.all_eq_true] at this;simpa using this b hb
 . have:=h.2 x (List.mem_of_getElem? (by rw [List.getElem?_take_of_lt hi];exact hx))
   rw [List.all_eq_true] at this;simpa using this b hb
theorem StH.back {σ σ':List SV} {η η':List SB} (ks:List Nat) (i j m:Nat) (hi:Nat.ble e.length i=true) (hj:Nat.ble e.length j=true) (hm:Nat.ble e.length m=true) (hil:Nat.blt i η.length=true) (hjl:Nat.blt j η.length=true) (h:x2g m ((wue ks 0 σ).map (swSV i j)) (swL i j η)=true)
 (hk:StH Γ e ((wue ks 0 σ).map (swSV i j)) ((swL i j η).take m) σ' η'):StH Γ e σ η σ' η':=
 StH.trans (StH.only ks) (StH.trans (StH.xn2 (by simpa using hi) (by simpa using hj) (by simpa using hil) (by simpa using hjl)) (StH.trans (StH.cutB m (by simpa using hm) h) hk))
theorem StH.same {σ:List SV} {η:List SB} {σ':List SV} {η':List SB} (h:vma σ σ') (hη:η=η'):StH Γ e σ η σ' η':=hη▸StH.wph h
theorem StH.done {σ σ':List SV} {η η':List SB} (m:Nat) (hm:Nat.ble e.length m=true) (h:x2g m σ η=true) (hσ:σ=σ') (hη:η.take m=η'):StH Γ e σ η σ' η':=
 hσ▸hη▸StH.cutB m (by simpa using hm) h
theorem yp3.of {φ:List Nat} {η ηs:List SB} (h:φ.map (fun j=>η[j]?)=ηs.map (fun x=>some (rnSB (atR φ η.length) x))):yp3 φ η ηs:=by
 have hl:ηs.length=φ.length:=by
  have:=congrArg List.length h
  simpa using this.symm
 refine ⟨hl,fun i x hx=>?_⟩;have hi:i<ηs.length:=(List.getElem?_eq_some_iff.1 hx).1;refine ⟨φ[i]'(by omega),List.getElem?_eq_getElem _,?_⟩;have h1:=congrArg (fun l=>l[i]?) h;simp only [List.getElem?_map,hx,Option.map_some] at h1;rw [List.getElem?_eq_getElem (by omega)] at h1;simpa using h1
theorem vfe.at (φ:List Nat) {f:FuncId} {η ηs ηs':List SB} {args:List SV} {res:SV} (h:vfe Γ P f ηs args ηs' res) (hn:φ.Nodup) (hb:(φ.all fun j=>Nat.blt j η.length)=true)
 (hp:φ.map (fun j=>η[j]?)=ηs.map (fun x=>some (rnSB (atR φ η.length) x))) (hlen:Nat.ble φ.length ηs'.length=true):vfe Γ P f η (args.map (yo9 (atR φ η.length))) (putR φ η ηs') (rnSV (atR φ η.length) res):=
 vfe.frame hn (fun j hj=>by simpa using List.all_eq_true.1 hb j hj) (yp3.of hp) (by simpa using hlen) h
theorem z4m (φ:List Nat) {f:FuncId} {η ηs ηs':List SB} {args l:List SV} {res:SV} {K:Bool->List SB->SV->Prop} (h:vfe Γ P f ηs args ηs' res) (hl:args.map (yo9 (atR φ η.length))=l) (hn:φ.Nodup) (hb:(φ.all fun j=>Nat.blt j η.length)=true)
 (hp:φ.map (fun j=>η[j]?)=ηs.map (fun x=>some (rnSB (atR φ η.length) x))) (hlen:Nat.ble φ.length ηs'.length=true) (hk:K true (putR φ η ηs') (rnSV (atR φ η.length) res)):x0t Γ P f η l K:=
 hl▸xwg (vfe.at φ h hn hb hp hlen) hk
theorem z9f {a b:ByteArray}:seq a b=decide (a=b):=by
 unfold seq;rw [ByteArray.toList_eq,ByteArray.toList_eq];by_cases h:a=b
 . rw [h];simp
 . rw [decide_eq_false h]
   have:a.data.toList≠b.data.toList:=fun he=>h (ByteArray.ext (Array.toList_inj.1 he))
   simpa using this
theorem xo8 {s:ByteArray}:seq s ⟨#[]⟩=decide (s.size=0):=by
 rw [z9f];refine decide_eq_decide.2 ⟨fun h=>by rw [h];rfl,fun h=>ByteArray.ext (Array.eq_empty_of_size_eq_zero h)⟩
theorem w8 {n:Int} (h:0<=n/\n<=255):IntKind.u8.wrap n=n:=by rw [IntKind.wrap_u8];omega
attribute [go_sem] w8
theorem yi7 {n:Nat}:((n:Int)-1).toNat=n-1:=by omega
attribute [go_sem] yi7
theorem vn6 {σ:List SV} {t:Nat}:gt (σ.map vw) t=vw (gtS σ t):=yy2 t
attribute [go_sem] vn6 wjz valB elemAt
attribute [go_sem] xo8 wgp List.size_toArray List.length_map List.getD_cons_zero List.getD_cons_succ
attribute [go_sem] vez za8 wig eqOf litH xl4 vmp wa7 usdH usH xzq w01 ynd wli eqL
attribute [go_sem] putR atR rnSB rnHC yo9 rnSV List.zip_cons_cons List.zip_nil_left List.zip_nil_right List.drop_succ_cons
attribute [go_sem] swSV wmz swHC swSB sw List.map_nil
end Go.Hp
namespace Go.Hp.T
open Go Go.RowKit Go.Slot Go.Hp
set_option maxRecDepth 10000
theorem toD {Γ:List (Nat×List Cell)} {P:Program} {f:FuncId} {args:List AV} {res:AV} (h:yn2 P f args res):CallsD Γ P f args res:=Hp.yn2.d h
abbrev cI (n:Int):Cell:=.raw (.int .i64 n)
abbrev c8 (n:Int):Cell:=.raw (.int .u8 n)
abbrev cS (s:ByteArray):Cell:=.raw (.string s)
abbrev cB (b:Bool):Cell:=.raw (.bool b)
abbrev fN (f:FuncId):AV:=.one (.raw (.func (.func f) #[] #[]))
def wwz (s:ByteArray):List Int:=(List.range s.size).map (x41 s)
theorem vnk (s:ByteArray):(wwz s).length=s.size:=by simp [wwz]
theorem xq9 (s:ByteArray) (i:Nat) (h:i<s.size):(wwz s)[i]? = some (x41 s i):=by simp [wwz,h]
def z1a (p:Int->Bool) (s:ByteArray):Nat:=((wwz s).takeWhile p).length
theorem w9i {α:Type} (p:α->Bool):∀(l:List α) (n:Nat),n<=l.length->(∀ j x,j<n->l[j]? = some x->p x=true)->(n=l.length\/∃ x,l[n]? = some x/\p x=false)->(l.takeWhile p).length=n
 | [],n,hn,_,_=>by simp at hn;simp [hn]
 | a::l,0,_,_,h=>by
  rcases h with h | ⟨x,hx,hp⟩
  . simp at h
  . simp at hx;subst hx;simp [List.takeWhile,hp]
 | a::l,n+1,hn,hj,h=>by
  have ha:p a=true:=hj 0 a (by omega) rfl;rw [List.takeWhile_cons_of_pos ha,List.length_cons,w9i p l n (by simpa using hn) (fun j x h1 h2=>hj (j+1) x (by omega) (by simpa using h2)) ?_]
  rcases h with h | ⟨x,hx,hp⟩
  . exact .inl (by simpa using h)
  . exact .inr ⟨x,by simpa using hx,hp⟩
theorem xwo {p:Int->Bool} {s:ByteArray} {n:Nat} (hn:n<=s.size) (hj:∀ j,j<n->p (x41 s j)=true) (h:n=s.size\/p (x41 s n)=false):z1a p s=n:=by
 refine w9i p _ n (by rw [vnk];exact hn) (fun j x h1 h2=>?_) ?_
 . rw [xq9 s j (by omega)] at h2;cases h2;exact hj j h1
 . by_cases e:n=s.size
   . exact .inl (by rw [vnk];exact e)
   . rcases h with h | h
     . exact absurd h e
     . exact .inr ⟨_,xq9 s n (by omega),h⟩
theorem wtz (p:Int->Bool) (s:ByteArray):z1a p s<=s.size:=by
 have:=(List.takeWhile_sublist p (l:=wwz s)).length_le
 rw [vnk] at this;exact this
def yio (c:Int):Bool:=(decide (97<=c)&&decide (c<=122))||(decide (65<=c)&&decide (c<=90))
def isDigit (c:Int):Bool:=decide (48<=c)&&decide (c<=57)
def ycl (c:Int):Bool:=yio c||isDigit c||decide (c=95)
def ztv (c:Int):Bool:=decide (32<=c)&&decide (c<=126)
def isName (s:ByteArray):Bool:=decide (¬s.size=0)&&yio (x41 s 0)&&decide ((s.size:Int)<=20)&&decide ((z1a ycl s:Int)=s.size)
def wku (s:ByteArray):Bool:=!(decide (400<(s.size:Int))||decide (¬(z1a ztv s:Int)=s.size))
def escB (c:Int):List Int:=bif decide (c=34)||decide (c=92) then [92,c] else [c]
def escA (s:ByteArray) (i:Nat):List Int:=34::((wwz s).take i).flatMap escB
def escS (s:ByteArray):ByteArray:=strOfNums (escA s s.size++[34])
theorem xm4 {s:ByteArray} {i:Nat} (h:i<s.size):escA s (i+1)=escA s i++escB (x41 s i):=by
 unfold escA
 have:(wwz s).take (i+1)=(wwz s).take i++[x41 s i]:=by
  rw [List.take_add_one,xq9 s i h];rfl
 rw [this];simp
theorem wpk (s:ByteArray) (i:Nat):yua (x41 s i)=true:=by
 unfold yua x41
 have:=((s.data[i]?).getD 0).toNat_lt
 simp;omega
theorem v73 {c:Int} (h:yua c=true):(escB c).all yua=true:=by
 unfold escB
 have h':0<=c/\c<256:=by simpa [yua] using h
 cases decide (c=34)||decide (c=92)<;>simp [yua,h']
theorem xmf (s:ByteArray) (i:Nat):(escA s i).all yua=true:=by
 have hb:∀ c∈wwz s,yua c=true:=fun c hc=>by
  simp only [wwz,List.mem_map] at hc;obtain ⟨j,_,rfl⟩:=hc;exact wpk s j
 unfold escA;rw [List.all_cons,Bool.and_eq_true];refine ⟨rfl,?_⟩;rw [List.all_flatMap,List.all_eq_true]
 exact fun c hc=>v73 (hb c (List.mem_of_mem_take hc))
theorem x13 (c:Int):(escB c).length<=2:=by unfold escB;cases decide (c=34)||decide (c=92)<;>simp
theorem xne:∀ l:List Int,(l.flatMap escB).length<=2*l.length
 | []=>by simp
 | c::l=>by
  have:=xne l
  have:=x13 c
  simp only [List.flatMap_cons,List.length_append,List.length_cons];omega
theorem yil (s:ByteArray) (i:Nat):1<=(escA s i).length/\(escA s i).length<=1+2*s.size:=by
 unfold escA
 have:=xne ((wwz s).take i)
 have h2:((wwz s).take i).length<=s.size:=by rw [List.length_take,vnk];omega
 simp only [List.length_cons];omega
end Go.Hp.T
