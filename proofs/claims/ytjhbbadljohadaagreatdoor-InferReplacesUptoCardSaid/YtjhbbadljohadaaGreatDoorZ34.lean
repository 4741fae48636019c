/- The proof, part Z34: Fd, Ig, Nd. -/
import Derived.Test.YtjhbbadljohadaaGreatDoorZ29
import Derived.Test.YtjhbbadljohadaaGreatDoorZ33
import Derived.Test.YtjhbbadljohadaaGreatDoorZ30
namespace Go.Hp.T
open Go Go.RowKit Go.Slot Go.Hp Go.Slot.T
open Go.Proofs.Tryz (prog)
set_option maxRecDepth 10000
set_option maxHeartbeats 4000000
variable {Γ:List (Nat×List Cell)}
abbrev zC (z:Int):List Cell:=[.raw (.int .i64 (sg z)),.ints .i64 (dig z.natAbs)]
theorem cNewPos (z:Int) (d:Nat) (hz:okZ z) (hd:d≠0) (hl:(dig d).length≤268435456):CallsD Γ prog 91 [.agg (zC z),.agg (zC d)] (.tup [.agg (Fc.of (Rat.divInt z d)).C,.one (cI 0)]):=by
 have:=toD (Γ:=Γ) (cNewQ z d hz hd hl)
 rw [Rat.divInt_ofNat]
 unfold zC
 rw [sg_nat hd]
 exact this
theorem cNewNeg (z:Int) (d:Nat) (hz:okZ z) (hd:d≠0) (hl:(dig d).length≤268435456):CallsD Γ prog 91 [.agg (zC z),.agg (zC (-(d:Int)))] (.tup [.agg (Fc.of (Rat.divInt z (-(d:Int)))).C,.one (cI 0)]):=by
 have hdd:okZ (-(d:Int)):=by unfold okZ;rw [show (-(d:Int)).natAbs=d by omega];exact hl
 have hzz:okZ (-z):=by unfold okZ at hz ⊢;rw [Int.natAbs_neg];exact hz
 have hdz:okZ (d:Int):=hl
 have hs:sg (-(d:Int)) = -1:=sg_neg (by omega)
 have hgp:0<(Int.gcd (-z) d:Int):=(mkRat_parts (-z) hd).2.2
 obtain ⟨p1,p2,p3⟩:=mkRat_parts (-z) hd
 have hden:=sg_den (mkRat (-z) d)
 rw [p2] at hden
 have hgl:okZ (Int.gcd (-z) d:Int):=by
  have:(Int.gcd (-z) d:Int).natAbs≤d:=by
   have:Int.gcd (-z) d ∣ d:=by have:=Int.gcd_dvd_natAbs_right (-z) d;simpa using this
   exact Nat.le_of_dvd (Nat.pos_of_ne_zero hd) this
  exact Nat.le_trans (dig_len_le this) hl
 have hn1:=cNegZ z hz
 have hn2:=cNegZ (-(d:Int)) hdd
 rw [Int.neg_neg,hs,sg_nat hd] at hn2
 have hr:=cRightZ (-(d:Int)) hdd
 rw [hs] at hr
 have hg:=cGcdZ (-z) d hzz hdz
 have hd1:=cDivZ (-z) (Int.gcd (-z) d:Int) hzz hgl hgp
 have hd2:=cDivZ d (Int.gcd (-z) d:Int) hdz hgl hgp
 rw [sg_nat hd] at hg hd2
 rw [hden] at hd2
 have hden2:(mkRat (-z) d).den=((d:Int) / (Int.gcd (-z) d:Int)).natAbs:=by omega
 have hfin:(Fc.of (Rat.divInt z (-(d:Int)))).C=[.raw (.int .i64 (sg (-z / (Int.gcd (-z) d:Int)))),.ints .i64 (dig (-z / (Int.gcd (-z) d:Int)).natAbs),.raw (.int .i64 1),.ints .i64 (dig ((d:Int) / (Int.gcd (-z) d:Int)).natAbs)]:=by
  rw [Rat.divInt_neg',Rat.divInt_ofNat,←p1,←hden2];rfl
 rw [hfin]
 generalize (Int.gcd (-z) d:Int)=g at *
 unfold zC
 rw [hs]
 refine CallsD.run [] Go.Proofs.Tryz.func91 rfl rfl rfl ?_;simp only [Go.Proofs.Tryz.f91];refine hgR ?_
 repeat' ((first | refine hfk ?_ ?_<;>intros | refine hik ?_ | with_reducible first | refine hcall (toD (cRightZ z hz)) ?_ | refine hcalle (toD (cRightZ z hz)) ?_ | refine hcall (toD hr) ?_ | refine hcalle (toD hr) ?_ | refine hcall (toD hn1) ?_ | refine hcalle (toD hn1) ?_ | refine hcall (toD hn2) ?_ | refine hcalle (toD hn2) ?_ | refine hcall (toD hg) ?_ | refine hcalle (toD hg) ?_ | refine hcall (toD hd1) ?_ | refine hcalle (toD hd1) ?_ | refine hcall (toD hd2) ?_ | refine hcalle (toD hd2) ?_)<;>refine hgS ?_)
 exact RLe.ofEq rfl
theorem cNewZ (z q:Int) (hz:okZ z) (hq:q≠0) (hl:okZ q):CallsD Γ prog 91 [.agg (zC z),.agg (zC q)] (.tup [.agg (Fc.of (Rat.divInt z q)).C,.one (cI 0)]):=by
 unfold okZ at hl
 rcases Int.lt_or_gt_of_ne hq with h | h
 · have e:q = -((q.natAbs:Nat):Int):=by omega
   have:=cNewNeg (Γ:=Γ) z q.natAbs hz (by omega) hl
   rw [←e] at this
   exact this
 · have e:((q.natAbs:Nat):Int)=q:=by omega
   have:=cNewPos (Γ:=Γ) z q.natAbs hz (by omega) hl
   rw [e] at this
   exact this
theorem cFracOf (p q:Int) (hp:inI p) (hq:inI q) (hq0:q≠0):CallsD Γ prog 60 [.one (cI p),.one (cI q)] (.tup [.agg (Fc.of (Rat.divInt p q)).C,.one (cI 0)]):=by
 have okI:∀ n:Int,inI n→okZ n:=fun n hn=>by
  unfold okZ
  have:=dig_small (n:=n.natAbs) (by unfold inI at hn;omega)
  omega
 refine CallsD.run [] Go.Proofs.Tryz.func60 rfl rfl rfl ?_;simp only [Go.Proofs.Tryz.f60];refine hgR ?_
 repeat' ((first | refine hfk ?_ ?_<;>intros | refine hik ?_ | with_reducible first | refine hcall (toD (cOf p hp)) ?_ | refine hcalle (toD (cOf p hp)) ?_ | refine hcall (toD (cOf q hq)) ?_ | refine hcalle (toD (cOf q hq)) ?_ | refine hcall (cNewZ p q (okI p hp) hq0 (okI q hq)) ?_ | refine hcalle (cNewZ p q (okI p hp) hq0 (okI q hq)) ?_)<;>refine hgS ?_)
 exact RLe.ofEq rfl
theorem rat_div (x y:Rat):x / y=Rat.divInt (x.num*y.den) (x.den*y.num):=by
 rw [Rat.div_def,Rat.inv_def]
 conv=>lhs;rw [←Rat.num_divInt_den x]
 rw [Rat.divInt_mul_divInt]
abbrev fQ (x:Rat):List Cell:=[.raw (.int .i64 (sg x.num)),.ints .i64 (dig x.num.natAbs),.raw (.int .i64 1),.ints .i64 (dig x.den)]
abbrev qs (x:Rat):Nat:=(Fc.of x).sz
theorem qRight (x:Rat) (h:qs x≤268435456):CallsD Γ prog 92 [.agg (fQ x)] (.one (cB true)):=toD (cRightOf x h)
theorem qMul (x y:Rat) (hx:qs x≤67108864) (hy:qs y≤67108864):CallsD Γ prog 61 [.agg (fQ x),.agg (fQ y)] (.tup [.agg (fQ (x*y)),.one (cI 0)]):=by
 have:=toD (Γ:=Γ) (cMulF (Fc.of x) (Fc.of y) hx hy)
 rw [Fc.mul_of,Fc.er_of ⟨Fc.of_ok x,Fc.of_ok y⟩] at this
 exact this
theorem qInt (n:Int) (hn:inI n):CallsD Γ prog 31 [.one (cI n)] (.agg (fQ (n:Rat))):=toD (cIntF n hn)
theorem qOf (p q:Int) (hp:inI p) (hq:inI q) (hq0:q≠0):CallsD Γ prog 60 [.one (cI p),.one (cI q)] (.tup [.agg (fQ (Rat.divInt p q)),.one (cI 0)]):=cFracOf p q hp hq hq0
theorem qDiv (x y:Rat) (hy:y≠0) (hx:qs x≤67108864) (hyl:qs y≤67108864):CallsD Γ prog 62 [.agg (fQ x),.agg (fQ y)] (.tup [.agg (fQ (x / y)),.one (cI 0)]):=by
 have lx:=szO hx
 have ly:=szO hyl
 have l1:=len_mul x.num y.den
 have l4:=len_mul (x.den:Int) y.num
 have hyn:y.num≠0:=fun h=>hy (Rat.num_eq_zero.1 h)
 have hsy:sg y.num≠0:=by have:=sg_cases y.num;omega
 have hD:okZ (x.den:Int):=by unfold okZ;have:=lx.2;simp only [Int.natAbs_natCast];omega
 have hDy:okZ (y.den:Int):=by unfold okZ;have:=ly.2;simp only [Int.natAbs_natCast];omega
 have t1:=cTimes x.num y.den (by unfold okZ;omega) hDy
 have t2:=cTimes (x.den:Int) y.num hD (by unfold okZ;omega)
 rw [sg_nat y.den_nz] at t1
 rw [sg_nat x.den_nz] at t2
 simp only [Int.natAbs_natCast] at t1 t2
 have hden:((x.den:Int)*y.num)≠0:=Int.mul_ne_zero (by have:=x.den_nz;omega) hyn
 have hn:=cNewZ (Γ:=Γ) (x.num*y.den) (x.den*y.num) (by unfold okZ;simp only [Int.natAbs_natCast] at l1;omega) hden (by unfold okZ;simp only [Int.natAbs_natCast] at l4;omega)
 rw [rat_div]
 refine CallsD.run [] Go.Proofs.Tryz.func62 rfl rfl rfl ?_;simp only [Go.Proofs.Tryz.f62];refine hgR ?_
 repeat' ((first | refine hfk ?_ ?_<;>intros | refine hik ?_ | with_reducible first | refine hcall (qRight x (by omega)) ?_ | refine hcalle (qRight x (by omega)) ?_ | refine hcall (qRight y (by omega)) ?_ | refine hcalle (qRight y (by omega)) ?_ | refine hcall (toD t1) ?_ | refine hcalle (toD t1) ?_ | refine hcall (toD t2) ?_ | refine hcalle (toD t2) ?_ | refine hcall (hn) ?_ | refine hcalle (hn) ?_)<;>refine hgS ?_)
 exact RLe.ofEq rfl
end Go.Hp.T

namespace Go.Hp.T
open Go Go.RowKit Go.Slot Go.Hp
set_option maxRecDepth 10000
structure Un where
 d:Dm
 f:Rat
abbrev unC (u:Un):List Cell:=[cI u.d.a,cI u.d.b,cI u.d.c,cI u.d.d,cI u.d.e,cI u.d.f,.raw (.int .i64 (sg u.f.num)),.ints .i64 (dig u.f.num.natAbs),.raw (.int .i64 1),.ints .i64 (dig u.f.den)]
abbrev unZ:List Cell:=[cI 0,cI 0,cI 0,cI 0,cI 0,cI 0,cI 0,.zc,cI 0,.zc]
def unO:Option Un→List Cell
 | some u=>unC u
 | none=>unZ
def baseD (b e:Int):Dm:=⟨bif decide (b=0) then e else 0,bif decide (b=1) then e else 0,bif decide (b=2) then e else 0,bif decide (b=3) then e else 0,bif decide (b=4) then e else 0,bif decide (b=5) then e else 0⟩
def unOf (b e p q:Int):Un:=⟨baseD b e,Rat.divInt p q⟩
def symF (s:ByteArray):Option Un:=
 bif seq s ⟨#[103]⟩ then some (unOf 0 1 1 1) else
 bif seq s ⟨#[116]⟩ then some (unOf 0 1 1000000 1) else
 bif seq s ⟨#[109]⟩ then some (unOf 1 1 1 1) else
 bif seq s ⟨#[108]⟩ then some (unOf 1 3 1 1000) else
 bif seq s ⟨#[115]⟩ then some (unOf 2 1 1 1) else
 bif seq s ⟨#[104]⟩ then some (unOf 2 1 3600 1) else
 bif seq s ⟨#[100]⟩ then some (unOf 2 1 86400 1) else
 bif seq s ⟨#[74]⟩ then some (unOf 3 1 1 1) else
 bif seq s ⟨#[87,104]⟩ then some (unOf 3 1 3600 1) else
 bif seq s ⟨#[99,101,110,116]⟩ then some (unOf 4 1 1 1) else
 bif seq s ⟨#[101,117,114]⟩ then some (unOf 4 1 100 1) else
 bif seq s ⟨#[112,99]⟩ then some (unOf 5 1 1 1) else none
def sDrop (s:ByteArray) (i:Nat):ByteArray:=s.extract i s.size
def sTake (s:ByteArray) (i:Nat):ByteArray:=s.extract 0 i
def preF (c:Int):Option (Int×Int):=bif decide (c=107) then some (1000,1) else bif decide (c=77) then some (1000000,1) else bif decide (c=71) then some (1000000000,1) else bif decide (c=109) then some (1,1000) else none
def preO:Option (Int×Int)→Int×Int
 | some p=>p
 | none=>(0,0)
def prefixedF (s:ByteArray):Bool:=seq s ⟨#[103]⟩||seq s ⟨#[109]⟩||seq s ⟨#[108]⟩||seq s ⟨#[115]⟩||seq s ⟨#[74]⟩||seq s ⟨#[87,104]⟩
theorem sDrop_size (s:ByteArray) (i:Nat):(sDrop s i).size=s.size-i:=by unfold sDrop;simp
theorem sTake_size (s:ByteArray) (i:Nat) (h:i≤s.size):(sTake s i).size=i:=by unfold sTake;simp;omega
structure It where
 w:ByteArray
 e:Int
instance:Inhabited It:=⟨⟨⟨#[]⟩,0⟩⟩
def It.C (x:It):List Cell:=[cS x.w,cI x.e]
abbrev itC (x:It):List Cell:=[cS x.w,cI x.e]
theorem It.C_eq (x:It):x.C=itC x:=rfl
attribute [go_sem] It.C_eq
def cutRest (s:ByteArray):ByteArray:=sDrop s (spanF isLetter s)
def cutDig (s:ByteArray):Bool:=decide (¬(cutRest s).size=0)&&decide (50≤byteAt (cutRest s) 0)&&decide (byteAt (cutRest s) 0≤57)
def cutIt (s:ByteArray):It:=⟨sTake s (spanF isLetter s),bif cutDig s then byteAt (cutRest s) 0-48 else 1⟩
def cutAfter (s:ByteArray):ByteArray:=bif cutDig s then sDrop (cutRest s) 1 else cutRest s
def cutOk' (s:ByteArray):Bool:=decide (0<(spanF isLetter s:Int))
def uWordF (s:ByteArray):Option Un:=
 bif (symF s).isSome then symF s else
 bif !(preF (byteAt s 0)).isSome||!(symF (sDrop s 1)).isSome||!prefixedF (sDrop s 1) then none else
 match preF (byteAt s 0),symF (sDrop s 1) with
 | some p,some u=>some ⟨u.d,u.f*Rat.divInt p.1 p.2⟩
 | _,_=>none
def iter {α:Type} (g:α→α):Nat→α→α
 | 0,a=>a
 | n+1,a=>iter g n (g a)
theorem iter_succ {α:Type} (g:α→α):∀(n:Nat) (a:α),iter g (n+1) a=g (iter g n a)
 | 0,_=>rfl
 | n+1,a=>by rw [iter,iter_succ g n (g a),iter]
def timesF (a f:Rat) (e:Int):Rat:=bif decide (0<e) then iter (· * f) e.natAbs a else iter (· / f) e.natAbs a
theorem qs_mul (x y:Rat):qs (x*y)≤qs x+qs y:=Fc.sz_mul_of x y
theorem qs_inv (x:Rat):qs x⁻¹≤qs x+1:=by
 by_cases h:x=0
 · subst h;rw [Rat.inv_zero];exact Nat.le_succ _
 · show (Fc.of x⁻¹).sz≤(Fc.of x).sz+1
   have hn:x.num≠0:=fun e=>h (Rat.num_eq_zero.1 e)
   rw [Fc.sz_of,Fc.sz_of,Rat.num_inv,Rat.den_inv,if_neg hn]
   have:(x.num.sign*(x.den:Int)).natAbs=x.den:=by
    rw [Int.natAbs_mul,Int.natAbs_sign]
    simp [hn]
   rw [this]
   omega
theorem qs_div (x y:Rat):qs (x / y)≤qs x+qs y+1:=by
 rw [Rat.div_def]
 have:=qs_mul x y⁻¹
 have:=qs_inv y
 omega
def Dm.in03 (d:Dm):Prop:=(0≤d.a∧d.a≤3)∧(0≤d.b∧d.b≤3)∧(0≤d.c∧d.c≤3)∧(0≤d.d∧d.d≤3)∧(0≤d.e∧d.e≤3)∧(0≤d.f∧d.f≤3)
theorem divInt_sm {p q:Int} (hp:1≤p∧p≤1000000000) (hq:1≤q∧q≤1000000000):qs (Rat.divInt p q)≤4∧Rat.divInt p q≠0:=by
 obtain ⟨n,rfl⟩:∃ n:Nat,q=n:=⟨q.toNat,by omega⟩
 rw [Rat.divInt_ofNat]
 refine ⟨?_,(Rat.mkRat_ne_zero (by omega)).2 (by omega)⟩
 have:=Fc.sz_mkRat p n (by omega)
 have h1:=Slot.T.dig_small (n:=p.natAbs) (by omega)
 have h2:=Slot.T.dig_small (n:=n) (by omega)
 show (Fc.of _).sz≤4
 omega
theorem baseD_in {b e:Int} (he:0≤e∧e≤3):(baseD b e).in03:=by
 have key:∀ p:Bool,0≤(bif p then e else 0)∧(bif p then e else 0)≤3:=fun p=>by cases p<;>simp<;>omega
 exact ⟨key _,key _,key _,key _,key _,key _⟩
theorem unOf_sm {b e p q:Int} (he:0≤e∧e≤3) (hp:1≤p∧p≤1000000000) (hq:1≤q∧q≤1000000000):(unOf b e p q).d.in03∧qs (unOf b e p q).f≤4∧(unOf b e p q).f≠0:=⟨baseD_in he,divInt_sm hp hq⟩
theorem symF_sm {s:ByteArray} {u:Un} (h:symF s=some u):u.d.in03∧qs u.f≤4∧u.f≠0:=by
 unfold symF at h
 repeat' first
  | (cases h;exact unOf_sm (by omega) (by omega) (by omega))
  | (cases hc:seq s _<;>rw [hc] at h<;>simp only [cond_true,cond_false] at h)
 cases h
theorem preF_sm {c:Int} {p:Int×Int} (h:preF c=some p):(1≤p.1∧p.1≤1000000000)∧(1≤p.2∧p.2≤1000000000):=by
 unfold preF at h
 repeat' first
  | (cases h;done)
  | (cases h;simp;done)
  | (cases hc:decide (c=_)<;>rw [hc] at h<;>simp only [cond_true,cond_false] at h)
theorem uWordF_sm {s:ByteArray} {u:Un} (h:uWordF s=some u):u.d.in03∧qs u.f≤8∧u.f≠0:=by
 unfold uWordF at h
 cases h1:(symF s).isSome with
 | true=>
  rw [h1,cond_true] at h
  obtain ⟨a,b,c⟩:=symF_sm h
  exact ⟨a,by omega,c⟩
 | false=>
  rw [h1,cond_false] at h
  cases h2:(!(preF (byteAt s 0)).isSome||!(symF (sDrop s 1)).isSome||!prefixedF (sDrop s 1)) with
  | true=>rw [h2,cond_true] at h;cases h
  | false=>
   rw [h2,cond_false] at h
   split at h
   · rename_i p v hp hv
     cases h
     obtain ⟨a,b,c⟩:=symF_sm hv
     obtain ⟨d,e⟩:=preF_sm hp
     obtain ⟨f,g⟩:=divInt_sm d e
     refine ⟨a,?_,?_⟩
     · have:=qs_mul v.f (Rat.divInt p.1 p.2)
       show qs (v.f*_)≤8
       omega
     · exact fun h0=>by
        rcases Rat.mul_eq_zero.1 h0 with h0 | h0
        · exact c h0
        · exact g h0
   · cases h
def pw (a f:Rat) (x:Int) (i:Nat):Rat:=bif decide (0<x) then iter (· * f) i a else iter (· / f) i a
theorem pw_zero (a f:Rat) (x:Int):pw a f x 0=a:=by unfold pw;cases decide (0<x)<;>rfl
theorem pw_pos {a f:Rat} {x:Int} (h:0<x) (i:Nat):pw a f x (i+1)=pw a f x i*f:=by unfold pw;rw [decide_eq_true h];exact iter_succ _ _ _
theorem pw_neg {a f:Rat} {x:Int} (h:¬0<x) (i:Nat):pw a f x (i+1)=pw a f x i / f:=by unfold pw;rw [decide_eq_false h];exact iter_succ _ _ _
theorem pw_qs (a f:Rat) (x:Int):∀ i,qs (pw a f x i)≤qs a+i*(qs f+1)
 | 0=>by rw [pw_zero];omega
 | i+1=>by
  have ih:=pw_qs a f x i
  rw [Nat.add_mul,Nat.one_mul]
  by_cases h:0<x
  · rw [pw_pos h]
    have:=qs_mul (pw a f x i) f
    omega
  · rw [pw_neg h]
    have:=qs_div (pw a f x i) f
    omega
theorem timesF_pw (a f:Rat) (x:Int):timesF a f x=pw a f x x.natAbs:=rfl
theorem cutIt_e (s:ByteArray):1≤(cutIt s).e∧(cutIt s).e≤9:=by
 unfold cutIt
 cases h:cutDig s with
 | false=>simp
 | true=>
  simp only [cutDig,Bool.and_eq_true,decide_eq_true_eq] at h
  simp only [cond_true]
  omega
theorem cutAfter_size (s:ByteArray):(cutAfter s).size≤s.size:=by
 unfold cutAfter cutRest
 cases cutDig s<;>simp only [cond_true,cond_false,sDrop_size]<;>omega
def sgnIt (c:Int) (x:It):It:=bif decide (c=47) then ⟨x.w,0-x.e⟩ else x
def hasPre (s p:ByteArray):Bool:=decide ((p.size:Int)≤s.size)&&seq (sTake s p.size) p
def itemsStart (s:ByteArray):ByteArray:=bif hasPre s ⟨#[49]⟩ then sDrop s 1 else ⟨#[42]⟩++s
def itemsL:Nat→ByteArray→List It→Option (List It)
 | 0,_,_=>none
 | n+1,r,acc=>bif decide (r.size=0) then some acc else
  bif !cutOk' (sDrop r 1)||(decide (¬byteAt r 0=42)&&decide (¬byteAt r 0=47)) then none else
  itemsL n (cutAfter (sDrop r 1)) (acc++[sgnIt (byteAt r 0) (cutIt (sDrop r 1))])
def itemsF (s:ByteArray):Option (List It):=bif decide (s.size=0) then some [] else bif decide (40<(s.size:Int)) then none else itemsL (s.size+2) (itemsStart s) []
def itO:Option (List It)→List It
 | some l=>l
 | none=>[]
def It.ok (x:It):Prop:=1≤x.w.size∧x.w.size≤1000∧-9≤x.e∧x.e≤9
theorem sgnIt_ok {r:ByteArray} (h:cutOk' r=true) (hr:r.size≤1000) (c:Int):(sgnIt c (cutIt r)).ok:=by
 have he:=cutIt_e r
 have hw:(cutIt r).w.size=spanF isLetter r:=sTake_size _ _ (spanF_le _ _)
 have hl:=spanF_le isLetter r
 have h0:1≤spanF isLetter r:=by
  have:(0:Int)<(spanF isLetter r:Int):=by simpa [cutOk'] using h
  omega
 unfold sgnIt
 cases decide (c=47)
 · exact ⟨by simp only [cond_false];omega,by simp only [cond_false];omega,by simp only [cond_false];omega,by simp only [cond_false];omega⟩
 · exact ⟨by simp only [cond_true];omega,by simp only [cond_true];omega,by simp only [cond_true];omega,by simp only [cond_true];omega⟩
theorem itemsL_ok : ∀ (n : Nat) (r : ByteArray) (acc l : List It), itemsL n r acc = some l → r.size ≤ 1000 → (∀ x ∈ acc, x.ok) → l.length ≤ acc.length + r.size ∧ ∀ x ∈ l, x.ok
 | 0,_,_,_,h,_,_=>by cases h
 | n + 1, r, acc, l, h, hr, ha => by
  rw [itemsL] at h
  by_cases h0:r.size=0
  · rw [decide_eq_true h0,cond_true] at h;cases h;exact ⟨by omega,ha⟩
  · rw [decide_eq_false h0, cond_false] at h
    cases hb:(!cutOk' (sDrop r 1)||(decide (¬byteAt r 0=42)&&decide (¬byteAt r 0=47))) with
    | true=>rw [hb,cond_true] at h;cases h
    | false=>
     rw [hb,cond_false] at h
     have hok:cutOk' (sDrop r 1)=true:=by
      cases hc:cutOk' (sDrop r 1) with
      | true=>rfl
      | false=>rw [hc] at hb;simp at hb
     have hd:=sDrop_size r 1
     have hcs:=cutAfter_size (sDrop r 1)
     obtain ⟨h1,h2⟩:=itemsL_ok n _ _ _ h (by omega) (fun x hx=>by
      rcases List.mem_append.1 hx with hx | hx
      · exact ha x hx
      · simp at hx;subst hx;exact sgnIt_ok hok (by omega) _)
     refine ⟨?_,h2⟩
     rw [List.length_append,List.length_singleton] at h1
     omega
theorem itemsF_ok {s : ByteArray} {l : List It} (h : itemsF s = some l) : l.length ≤ 41 ∧ ∀ x ∈ l, x.ok := by
 unfold itemsF at h
 by_cases h0:s.size=0
 · rw [decide_eq_true h0,cond_true] at h;cases h;simp
 · rw [decide_eq_false h0, cond_false] at h
   by_cases h1:40<(s.size:Int)
   · rw [decide_eq_true h1,cond_true] at h;cases h
   · rw [decide_eq_false h1,cond_false] at h
     have hsz:(itemsStart s).size≤s.size+1:=by
      unfold itemsStart
      have h42:(⟨#[42]⟩:ByteArray).size=1:=rfl
      cases hasPre s ⟨#[49]⟩
      · simp only [cond_false,ByteArray.size_append];omega
      · simp only [cond_true,sDrop_size];omega
     obtain ⟨a,b⟩:=itemsL_ok _ _ _ _ h (by omega) (fun x hx=>by cases hx)
     exact ⟨by simp at a;omega,b⟩
def Dm.acc (x y:Dm) (e:Int):Dm:=⟨x.a+y.a*e,x.b+y.b*e,x.c+y.c*e,x.d+y.d*e,x.e+y.e*e,x.f+y.f*e⟩
def readL:List It→Un→Option Un
 | [],u=>some u
 | x::l,u=>match uWordF x.w with
  | none=>none
  | some v=>readL l ⟨u.d.acc v.d x.e,timesF u.f v.f x.e⟩
def uReadF (s:ByteArray):Option Un×Int:=match itemsF s with
 | none=>(none,12)
 | some l=>match readL l ⟨Dm.zero,(1:Int)⟩ with
  | none=>(none,11)
  | some u=>bif dRight u.d then (some u,0) else (none,3)
def Dm.le (d:Dm) (n:Int):Prop:=(-n≤d.a∧d.a≤n)∧(-n≤d.b∧d.b≤n)∧(-n≤d.c∧d.c≤n)∧(-n≤d.d∧d.d≤n)∧(-n≤d.e∧d.e≤n)∧(-n≤d.f∧d.f≤n)
theorem mul27 {a e:Int} (ha:0≤a∧a≤3) (he:-9≤e∧e≤9):-27≤a*e∧a*e≤27:=by
 have:a=0∨a=1∨a=2∨a=3:=by omega
 rcases this with rfl | rfl | rfl | rfl<;>omega
theorem Dm.acc_le {x y:Dm} {e n:Int} (hx:x.le n) (hy:y.in03) (he:-9≤e∧e≤9):(x.acc y e).le (n+27):=by
 obtain ⟨a1,a2,a3,a4,a5,a6⟩:=hx
 obtain ⟨b1,b2,b3,b4,b5,b6⟩:=hy
 have c1:=mul27 b1 he
 have c2:=mul27 b2 he
 have c3:=mul27 b3 he
 have c4:=mul27 b4 he
 have c5:=mul27 b5 he
 have c6:=mul27 b6 he
 unfold Dm.le Dm.acc
 simp only
 omega
theorem qs_one:qs ((1:Int):Rat)≤1:=by
 show max (dig (1:Nat)).length (dig (1:Nat)).length≤1
 have:=dig_len (n:=1) (k:=1) (by decide)
 omega
def dmO:Option Un→Dm
 | some u=>u.d
 | none=>Dm.zero
def fcO (i:Nat):Option Un→Cell
 | some u=>(fQ u.f).getD i .zc
 | none=>[cI 0,.zc,cI 0,.zc].getD i .zc
abbrev unX (o:Option Un):List Cell:=[cI (dmO o).a,cI (dmO o).b,cI (dmO o).c,cI (dmO o).d,cI (dmO o).e,cI (dmO o).f,fcO 0 o,fcO 1 o,fcO 2 o,fcO 3 o]
theorem unO_eq (o:Option Un):unO o=unX o:=by cases o<;>rfl
end Go.Hp.T

namespace Go.Hp.T
open Go Go.RowKit Go.Slot Go.Hp Go.Slot.T
open Go.Proofs.Tryz (prog)
set_option maxRecDepth 10000
set_option maxHeartbeats 4000000
variable {Γ:List (Nat×List Cell)}
theorem cULetter (c:Int):CallsD Γ prog 88 [.one (c8 c)] (.one (cB (isLetter c))):=by
 refine CallsD.run [] Go.Proofs.Tryz.func88 rfl rfl rfl ?_;simp only [Go.Proofs.Tryz.f88];refine hgR ?_
 repeat' ((first | refine hfk ?_ ?_<;>intros | refine hik ?_)<;>refine hgS ?_)
 all_goals (refine RLe.ofEq ?_;conv=>simp only [Bool.and_true,Bool.true_and,Bool.and_false,Bool.false_and,Bool.or_true,Bool.true_or,Bool.or_false,Bool.false_or,Bool.not_true,Bool.not_false,decide_true,decide_false,not_true_eq_false,not_false_eq_true,bnot_decide,if_true,if_false,Bool.and_self,Bool.or_self,cond_true,cond_false,List.length_map,ne_eq,Int.reduceEq,Int.reduceLT,Int.reduceLE, *,isLetter]);first | exact trivial | rfl
theorem cUnOf (b e p q:Int) (hb:b=0∨b=1∨b=2∨b=3∨b=4∨b=5) (hp:inI p) (hq:inI q) (hq0:q≠0):CallsD Γ prog 90 [.one (cI b),.one (cI e),.one (cI p),.one (cI q)] (.agg (unC (unOf b e p q))):=by
 rcases hb with rfl | rfl | rfl | rfl | rfl | rfl
 all_goals
  refine CallsD.run [] Go.Proofs.Tryz.func90 rfl rfl rfl ?_;simp only [Go.Proofs.Tryz.f90];refine hgR ?_
  repeat' ((first | refine hfk ?_ ?_<;>intros | refine hik ?_ | with_reducible first | refine hcall (qOf p q hp hq hq0) ?_ | refine hcalle (qOf p q hp hq hq0) ?_)<;>refine hgS ?_)
  exact RLe.ofEq rfl
theorem cSymbol (s:ByteArray):CallsD Γ prog 57 [.one (cS s)] (.tup [.agg (unO (symF s)),.one (cB (symF s).isSome)]):=by
 have h1:=cUnOf (Γ:=Γ) 0 1 1 1 (by decide) (by decide) (by decide) (by decide)
 have h2:=cUnOf (Γ:=Γ) 0 1 1000000 1 (by decide) (by decide) (by decide) (by decide)
 have h3:=cUnOf (Γ:=Γ) 1 1 1 1 (by decide) (by decide) (by decide) (by decide)
 have h4:=cUnOf (Γ:=Γ) 1 3 1 1000 (by decide) (by decide) (by decide) (by decide)
 have h5:=cUnOf (Γ:=Γ) 2 1 1 1 (by decide) (by decide) (by decide) (by decide)
 have h6:=cUnOf (Γ:=Γ) 2 1 3600 1 (by decide) (by decide) (by decide) (by decide)
 have h7:=cUnOf (Γ:=Γ) 2 1 86400 1 (by decide) (by decide) (by decide) (by decide)
 have h8:=cUnOf (Γ:=Γ) 3 1 1 1 (by decide) (by decide) (by decide) (by decide)
 have h9:=cUnOf (Γ:=Γ) 3 1 3600 1 (by decide) (by decide) (by decide) (by decide)
 have h10:=cUnOf (Γ:=Γ) 4 1 1 1 (by decide) (by decide) (by decide) (by decide)
 have h11:=cUnOf (Γ:=Γ) 4 1 100 1 (by decide) (by decide) (by decide) (by decide)
 have h12:=cUnOf (Γ:=Γ) 5 1 1 1 (by decide) (by decide) (by decide) (by decide)
 refine CallsD.run [] Go.Proofs.Tryz.func57 rfl rfl rfl ?_;simp only [Go.Proofs.Tryz.f57];refine hgR ?_
 repeat' ((first | refine hfk ?_ ?_<;>intros | refine hik ?_ | with_reducible first | refine hcall (h1) ?_ | refine hcalle (h1) ?_ | refine hcall (h2) ?_ | refine hcalle (h2) ?_ | refine hcall (h3) ?_ | refine hcalle (h3) ?_ | refine hcall (h4) ?_ | refine hcalle (h4) ?_ | refine hcall (h5) ?_ | refine hcalle (h5) ?_ | refine hcall (h6) ?_ | refine hcalle (h6) ?_ | refine hcall (h7) ?_ | refine hcalle (h7) ?_ | refine hcall (h8) ?_ | refine hcalle (h8) ?_ | refine hcall (h9) ?_ | refine hcalle (h9) ?_ | refine hcall (h10) ?_ | refine hcalle (h10) ?_ | refine hcall (h11) ?_ | refine hcalle (h11) ?_ | refine hcall (h12) ?_ | refine hcalle (h12) ?_)<;>refine hgS ?_)
 all_goals (refine RLe.ofEq ?_;conv=>simp only [Bool.and_true,Bool.true_and,Bool.and_false,Bool.false_and,Bool.or_true,Bool.true_or,Bool.or_false,Bool.false_or,Bool.not_true,Bool.not_false,decide_true,decide_false,not_true_eq_false,not_false_eq_true,bnot_decide,if_true,if_false,Bool.and_self,Bool.or_self,cond_true,cond_false,List.length_map,ne_eq,Int.reduceEq,Int.reduceLT,Int.reduceLE, *,symF,unO,Option.isSome]);first | exact trivial | rfl
theorem cPrefix (c:Int):CallsD Γ prog 58 [.one (c8 c)] (.tup [.one (cI (preO (preF c)).1),.one (cI (preO (preF c)).2),.one (cB (preF c).isSome)]):=by
 refine CallsD.run [] Go.Proofs.Tryz.func58 rfl rfl rfl ?_;simp only [Go.Proofs.Tryz.f58];refine hgR ?_
 repeat' ((first | refine hfk ?_ ?_<;>intros | refine hik ?_)<;>refine hgS ?_)
 all_goals (refine RLe.ofEq ?_;conv=>simp only [Bool.and_true,Bool.true_and,Bool.and_false,Bool.false_and,Bool.or_true,Bool.true_or,Bool.or_false,Bool.false_or,Bool.not_true,Bool.not_false,decide_true,decide_false,not_true_eq_false,not_false_eq_true,bnot_decide,if_true,if_false,Bool.and_self,Bool.or_self,cond_true,cond_false,List.length_map,ne_eq,Int.reduceEq,Int.reduceLT,Int.reduceLE, *,preF,preO,Option.isSome]);first | exact trivial | rfl
theorem cPrefixed (s:ByteArray):CallsD Γ prog 59 [.one (cS s)] (.one (cB (prefixedF s))):=by
 refine CallsD.run [] Go.Proofs.Tryz.func59 rfl rfl rfl ?_;simp only [Go.Proofs.Tryz.f59];refine hgR ?_
 repeat' ((first | refine hfk ?_ ?_<;>intros | refine hik ?_)<;>refine hgS ?_)
 all_goals (refine RLe.ofEq ?_;conv=>simp only [Bool.and_true,Bool.true_and,Bool.and_false,Bool.false_and,Bool.or_true,Bool.true_or,Bool.or_false,Bool.false_or,Bool.not_true,Bool.not_false,decide_true,decide_false,not_true_eq_false,not_false_eq_true,bnot_decide,if_true,if_false,Bool.and_self,Bool.or_self,cond_true,cond_false,List.length_map,ne_eq,Int.reduceEq,Int.reduceLT,Int.reduceLE, *,prefixedF]);first | exact trivial | rfl
theorem sExt (s:ByteArray) (i:Nat):s.extract 0 i=sTake s i:=rfl
theorem sExt' (s:ByteArray) (i:Nat):s.extract i s.size=sDrop s i:=rfl
attribute [go_sem] sExt sExt'
theorem cHasPrefix (s p:ByteArray) (_hs:s.size≤1073741824) (hp:p.size≤1073741824):CallsD Γ prog 112 [.one (cS s),.one (cS p)] (.one (cB (hasPre s p))):=by
 refine CallsD.run [] Go.Proofs.Tryz.func112 rfl rfl rfl ?_;simp only [Go.Proofs.Tryz.f112];refine hgR ?_
 repeat' ((first | refine hfk ?_ ?_<;>intros | refine hik ?_)<;>refine hgS ?_)
 all_goals (refine RLe.ofEq ?_;conv=>simp only [Bool.and_true,Bool.true_and,Bool.and_false,Bool.false_and,Bool.or_true,Bool.true_or,Bool.or_false,Bool.false_or,Bool.not_true,Bool.not_false,decide_true,decide_false,not_true_eq_false,not_false_eq_true,bnot_decide,if_true,if_false,Bool.and_self,Bool.or_self,cond_true,cond_false,List.length_map,ne_eq,Int.reduceEq,Int.reduceLT,Int.reduceLE, *,hasPre]);first | exact trivial | rfl
theorem cCutPrefix' (s p:ByteArray) (hs:s.size≤1073741824) (hp:p.size≤1073741824):CallsD Γ prog 87 [.one (cS s),.one (cS p)] (.tup [.one (cS (bif hasPre s p then sDrop s p.size else s)),.one (cB (hasPre s p))]):=by
 refine CallsD.run [] Go.Proofs.Tryz.func87 rfl rfl rfl ?_;simp only [Go.Proofs.Tryz.f87];refine hgR ?_
 refine hcall (cHasPrefix s p hs hp) ?_
 refine hg ?_
 refine condN (fun h=>?_) (fun h=>?_)
 · refine hg ?_
   (refine RLe.ofEq ?_;conv=>simp only [Bool.and_true,Bool.true_and,Bool.and_false,Bool.false_and,Bool.or_true,Bool.true_or,Bool.or_false,Bool.false_or,Bool.not_true,Bool.not_false,decide_true,decide_false,not_true_eq_false,not_false_eq_true,bnot_decide,if_true,if_false,Bool.and_self,Bool.or_self,cond_true,cond_false,List.length_map,ne_eq,Int.reduceEq,Int.reduceLT,Int.reduceLE, *]);first | exact trivial | rfl
 · have hle:p.size≤s.size:=by
    simp only [hasPre,Bool.and_eq_true,decide_eq_true_eq] at h
    omega
   refine hg ?_
   (refine RLe.ofEq ?_;conv=>simp only [Bool.and_true,Bool.true_and,Bool.and_false,Bool.false_and,Bool.or_true,Bool.true_or,Bool.or_false,Bool.false_or,Bool.not_true,Bool.not_false,decide_true,decide_false,not_true_eq_false,not_false_eq_true,bnot_decide,if_true,if_false,Bool.and_self,Bool.or_self,cond_true,cond_false,List.length_map,ne_eq,Int.reduceEq,Int.reduceLT,Int.reduceLE, *]);first | exact trivial | rfl
theorem cCutPrefix (s p:ByteArray) (hs:s.size≤1073741824) (hp:p.size≤1073741824):CallsD Γ prog 54 [.one (cS s),.one (cS p)] (.tup [.one (cS (bif hasPre s p then sDrop s p.size else s)),.one (cB (hasPre s p))]):=by
 refine CallsD.run [] Go.Proofs.Tryz.func54 rfl rfl rfl ?_;simp only [Go.Proofs.Tryz.f54];refine hgR ?_
 repeat' ((first | refine hfk ?_ ?_<;>intros | refine hik ?_ | with_reducible first | refine hcall (cCutPrefix' s p hs hp) ?_ | refine hcalle (cCutPrefix' s p hs hp) ?_)<;>refine hgS ?_)
 all_goals (refine RLe.ofEq ?_;conv=>simp only [Bool.and_true,Bool.true_and,Bool.and_false,Bool.false_and,Bool.or_true,Bool.true_or,Bool.or_false,Bool.false_or,Bool.not_true,Bool.not_false,decide_true,decide_false,not_true_eq_false,not_false_eq_true,bnot_decide,if_true,if_false,Bool.and_self,Bool.or_self,cond_true,cond_false,List.length_map,ne_eq,Int.reduceEq,Int.reduceLT,Int.reduceLE, *]);first | exact trivial | rfl
theorem cCut (s:ByteArray) (hs:s.size≤1073741824):CallsD Γ prog 55 [.one (cS s)] (.tup [.agg (itC (cutIt s)),.one (cS (cutAfter s)),.one (cB (cutOk' s))]):=by
 refine CallsD.run [] Go.Proofs.Tryz.func55 rfl rfl rfl ?_;simp only [Go.Proofs.Tryz.f55];refine hgR ?_
 refine hloop [0,2] (fun n:Nat=>[(5,.one (.dat (cI n)))]) (fun _=>[.box [.dat (cS ⟨⟨[]⟩⟩),.dat (cI 0)] (some 76)]) (fun n=>n≤s.size∧∀ j,j<n→isLetter (byteAt s j)=true) (fun n=>s.size-n) 0 ⟨Nat.zero_le _,fun j hj=>by omega⟩ ?_ ?_
 · refine hg ?_
   exact StH.same (by repeat' first | exact .nil | refine .cons (by first | exact .refl _ | exact .any _) ?_) rfl
 intro n hn
 obtain ⟨hn,hj⟩:=hn
 refine hg ?_
 refine guardD (fun hlt hd=>?_) (fun hlt _=>?_)
 · conv=>simp (maxSteps:=2000000) (disch:=omega) only [go_sem,Nat.reduceAdd,Nat.reduceSub,Nat.reduceMul,Int.reduceToNat,Nat.reduceEqDiff,Nat.reduceBEq,Nat.reduceBneDiff,Nat.reduceLT,Int.reduceEq,Int.reduceLT,Int.reduceLE,Int.reduceNeg,Int.reduceAdd,Int.reduceSub,Int.reduceMul,hd]
   refine hcall (cULetter _) ?_
   refine hg ?_
   refine condT (fun h1=>?_) (fun h1=>?_)
   · refine hg ?_
     refine ⟨n+1,⟨by omega,fun j hj'=>?_⟩,by omega,StH.same (by repeat' first | exact .nil | refine .cons (by first | exact .refl _ | exact .any _) ?_) rfl⟩
     rcases Nat.lt_or_eq_of_le (Nat.le_of_lt_succ hj') with h2 | h2
     · exact hj j h2
     · rw [h2];exact h1
   · have hsp:=spanF_eq hn hj (.inr h1)
     clear h1
     refine hg ?_
     repeat' ((first | refine hfk ?_ ?_<;>intros | refine hik ?_)<;>refine hgS ?_)
     all_goals (refine RLe.ofEq ?_;conv=>simp only [Bool.and_true,Bool.true_and,Bool.and_false,Bool.false_and,Bool.or_true,Bool.true_or,Bool.or_false,Bool.false_or,Bool.not_true,Bool.not_false,decide_true,decide_false,not_true_eq_false,not_false_eq_true,bnot_decide,if_true,if_false,Bool.and_self,Bool.or_self,cond_true,cond_false,List.length_map,ne_eq,Int.reduceEq,Int.reduceLT,Int.reduceLE, *,cutIt,cutAfter,cutDig,cutRest,cutOk',hsp]);first | exact trivial | rfl
 · have hsp:=spanF_eq hn hj (.inl (by omega))
   refine hgS ?_
   repeat' ((first | refine hfk ?_ ?_<;>intros | refine hik ?_)<;>refine hgS ?_)
   all_goals (refine RLe.ofEq ?_;conv=>simp only [Bool.and_true,Bool.true_and,Bool.and_false,Bool.false_and,Bool.or_true,Bool.true_or,Bool.or_false,Bool.false_or,Bool.not_true,Bool.not_false,decide_true,decide_false,not_true_eq_false,not_false_eq_true,bnot_decide,if_true,if_false,Bool.and_self,Bool.or_self,cond_true,cond_false,List.length_map,ne_eq,Int.reduceEq,Int.reduceLT,Int.reduceLE, *,cutIt,cutAfter,cutDig,cutRest,cutOk',hsp]);first | exact trivial | rfl
theorem cUWord (s:ByteArray) (hs:s.size≤1073741824) (h1:1≤s.size):CallsD Γ prog 32 [.one (cS s)] (.tup [.agg (unO (uWordF s)),.one (cB (uWordF s).isSome)]):=by
 refine CallsD.run [] Go.Proofs.Tryz.func32 rfl rfl rfl ?_;simp only [Go.Proofs.Tryz.f32];refine hgR ?_
 refine hcall (cSymbol s) ?_
 cases hy:symF s with
 | some u=>
  conv=>simp (maxSteps:=2000000) (disch:=omega) only [go_sem,Nat.reduceAdd,Nat.reduceSub,Nat.reduceMul,Int.reduceToNat,Nat.reduceEqDiff,Nat.reduceBEq,Nat.reduceBneDiff,Nat.reduceLT,Int.reduceEq,Int.reduceLT,Int.reduceLE,Int.reduceNeg,Int.reduceAdd,Int.reduceSub,Int.reduceMul,unO,Option.isSome]
  exact RLe.ofEq (by simp only [uWordF,hy];rfl)
 | none=>
  conv=>simp (maxSteps:=2000000) (disch:=omega) only [go_sem,Nat.reduceAdd,Nat.reduceSub,Nat.reduceMul,Int.reduceToNat,Nat.reduceEqDiff,Nat.reduceBEq,Nat.reduceBneDiff,Nat.reduceLT,Int.reduceEq,Int.reduceLT,Int.reduceLE,Int.reduceNeg,Int.reduceAdd,Int.reduceSub,Int.reduceMul,unO,Option.isSome]
  refine hcall (cPrefix _) ?_
  refine hg ?_
  refine hcall (cSymbol _) ?_
  cases hp:preF (byteAt s 0) with
  | none=>
   cases hy2:symF (sDrop s 1)<;>
   · conv=>simp (maxSteps:=2000000) (disch:=omega) only [go_sem,Nat.reduceAdd,Nat.reduceSub,Nat.reduceMul,Int.reduceToNat,Nat.reduceEqDiff,Nat.reduceBEq,Nat.reduceBneDiff,Nat.reduceLT,Int.reduceEq,Int.reduceLT,Int.reduceLE,Int.reduceNeg,Int.reduceAdd,Int.reduceSub,Int.reduceMul,unO,Option.isSome]
     exact RLe.ofEq (by simp only [uWordF,hy,hp];rfl)
  | some p=>
   cases hy2:symF (sDrop s 1) with
   | none=>
    conv=>simp (maxSteps:=2000000) (disch:=omega) only [go_sem,Nat.reduceAdd,Nat.reduceSub,Nat.reduceMul,Int.reduceToNat,Nat.reduceEqDiff,Nat.reduceBEq,Nat.reduceBneDiff,Nat.reduceLT,Int.reduceEq,Int.reduceLT,Int.reduceLE,Int.reduceNeg,Int.reduceAdd,Int.reduceSub,Int.reduceMul,unO,Option.isSome]
    exact RLe.ofEq (by simp only [uWordF,hy,hp,hy2];rfl)
   | some u=>
    obtain ⟨_,hu1,_⟩:=symF_sm hy2
    obtain ⟨hp1,hp2⟩:=preF_sm hp
    obtain ⟨hf1,_⟩:=divInt_sm hp1 hp2
    conv=>simp (maxSteps:=2000000) (disch:=omega) only [go_sem,Nat.reduceAdd,Nat.reduceSub,Nat.reduceMul,Int.reduceToNat,Nat.reduceEqDiff,Nat.reduceBEq,Nat.reduceBneDiff,Nat.reduceLT,Int.reduceEq,Int.reduceLT,Int.reduceLE,Int.reduceNeg,Int.reduceAdd,Int.reduceSub,Int.reduceMul,unO,Option.isSome,preO]
    repeat' ((first | refine hfk ?_ ?_<;>intros | refine hik ?_ | with_reducible first | refine hcall (cPrefixed _) ?_ | refine hcalle (cPrefixed _) ?_ | refine hcall (qOf p.1 p.2 (by unfold inI;omega) (by unfold inI;omega) (by omega)) ?_ | refine hcalle (qOf p.1 p.2 (by unfold inI;omega) (by unfold inI;omega) (by omega)) ?_ | refine hcall (qMul _ _ (Nat.le_trans hu1 (by decide)) (Nat.le_trans hf1 (by decide))) ?_ | refine hcalle (qMul _ _ (Nat.le_trans hu1 (by decide)) (Nat.le_trans hf1 (by decide))) ?_)<;>refine hgS ?_)
    all_goals rename_i hq
    all_goals exact RLe.ofEq (by simp only [uWordF,hy,hp,hy2,hq];rfl)
theorem cTimes (a f:Rat) (x:Int) (hx:x.natAbs≤1000) (ha:qs a≤100000) (hf:qs f≤1000) (hf0:f≠0):CallsD Γ prog 33 [.agg (fQ a),.agg (fQ f),.one (cI x)] (.agg (fQ (timesF a f x))):=by
 refine CallsD.run [] Go.Proofs.Tryz.func33 rfl rfl rfl ?_;simp only [Go.Proofs.Tryz.f33];refine hgR ?_
 refine hloop [2,3,4,6,10] (fun i:Nat=>[(11,.one (.dat (cI i)))]) (fun i=>[.box ((fQ (pw a f x i)).map .dat) (some 47),.box ((fQ f).map .dat) (some 47),.box [.dat (cI 0),.dat .zc,.dat (cI 0),.dat .zc] (some 47)]) (fun i=>i≤x.natAbs) (fun i=>x.natAbs-i) 0 (Nat.zero_le _) ?_ ?_
 · refine hg ?_
   exact StH.same (by repeat' first | exact .nil | refine .cons (by first | exact .refl _ | exact .any _) ?_) (by rw [pw_zero])
 intro i hi
 have hq:=pw_qs a f x i
 have hm:i*(qs f+1)≤1000*1001:=Nat.mul_le_mul (by omega) (by omega)
 refine hg ?_
 refine condD (fun hlt _=>?_) (fun hlt _=>?_)
 · refine hg ?_
   refine condD (fun hp hd=>?_) (fun hp hd=>?_)
   · refine hg ?_
     refine hcall (qMul (pw a f x i) f (by omega) (by omega)) ?_
     refine hg ?_
     exact ⟨i+1,by omega,by omega,StH.same (by repeat' first | exact .nil | refine .cons (by first | exact .refl _ | exact .any _) ?_) (by rw [pw_pos hp])⟩
   · refine hg ?_
     refine hcall (qDiv (pw a f x i) f hf0 (by omega) (by omega)) ?_
     refine hg ?_
     exact ⟨i+1,by omega,by omega,StH.same (by repeat' first | exact .nil | refine .cons (by first | exact .refl _ | exact .any _) ?_) (by rw [pw_neg hp])⟩
 · refine hg ?_
   have e:i=x.natAbs:=by omega
   subst e
   exact RLe.ofEq rfl
theorem cItems (s:ByteArray) (hs:s.size≤1073741824):CallsD Γ prog 30 [.one (cS s)] (.tup [.one (.sl 2 ((itO (itemsF s)).map It.C)),.one (cB (itemsF s).isSome)]):=by
 have bad:∀ b,itemsF s=none→b=false→RLe (.tup [.one (.raw (.slice none 0 0)),.one (cB b)]) (.tup [.one (.sl 2 ((itO (itemsF s)).map It.C)),.one (cB (itemsF s).isSome)]):=fun b h hb=>by
  rw [h,hb];exact .tup (.cons (.one (.nilSl 2)) (.cons (.refl _) .nil))
 refine CallsD.run [(9,[.join])] Go.Proofs.Tryz.func30 rfl rfl rfl ?_;simp only [Go.Proofs.Tryz.f30];refine hgR ?_
 repeat' ((first | refine hfk ?_ ?_<;>intros | refine hik ?_)<;>refine hgS ?_)
 · exact .tup (.cons (.one (by rename_i h;simp only [itemsF,h];exact .nilSl 2)) (.cons (by rename_i h;simp only [itemsF,h];exact .refl _) .nil))
 · refine bad _ (by simp only [itemsF, *];rfl) rfl
 refine hcall (cCutPrefix _ _ hs (by decide)) ?_
 refine hgS ?_
 refine hjoin [2,3,4] (fun r:ByteArray=>[(5,.one (.dat (cS r)))]) (fun _=>[]) (fun r=>r=itemsStart s) ?_ ?_
 · refine hg ?_
   refine condN (fun h=>?_) (fun h=>?_)
   · refine hg ?_
     refine ⟨_,rfl,?_⟩
     simp only [itemsStart,h]
     exact StH.same (by repeat' first | exact .nil | refine .cons (by first | exact .refl _ | exact .any _) ?_) rfl
   · refine hg ?_
     refine ⟨_,rfl,?_⟩
     simp only [itemsStart,h]
     exact StH.same (by repeat' first | exact .nil | refine .cons (by first | exact .refl _ | exact .any _) ?_) rfl
 intro r0 hr0
 have h0:itemsF s=itemsL (s.size+2) r0 []:=by simp only [itemsF, *];rfl
 have hsz:r0.size≤s.size+1:=by
  rw [hr0]
  unfold itemsStart
  have h42:(⟨#[42]⟩:ByteArray).size=1:=rfl
  cases hasPre s ⟨#[49]⟩
  · simp only [cond_false,ByteArray.size_append];omega
  · simp only [cond_true,sDrop_size];omega
 clear hr0
 refine hg ?_
 refine hloop [2,3] (fun p:Nat×ByteArray×List It=>[(4,.one (.sl 0 2 0 p.2.2.length)),(5,.one (.dat (cS p.2.1)))]) (fun p=>[.arr (.sl 2 (p.2.2.map It.C)) 0 (some 76)])
  (fun p=>p.2.1.size<p.1∧p.2.1.size≤1073741824∧p.2.2.length+p.2.1.size≤100∧itemsL p.1 p.2.1 p.2.2=itemsF s) (fun p=>p.2.1.size) (s.size+2,r0,[]) ⟨by simp only;omega,by simp only;omega,by simp only [List.length_nil];omega,h0.symm⟩ ?_ ?_
 · refine hg ?_
   refine StH.trans (StH.empty (d:=4) (es:=2) (c:=.sl 2 []) (T:=some 76) rfl rfl (fun r hr=>by cases hr) rfl) ?_
   refine hg ?_
   exact StH.same (by repeat' first | exact .nil | refine .cons (by first | exact .refl _ | exact .any _) ?_) rfl
 rintro ⟨k,r,acc⟩ ⟨h1,h2,h3,h4⟩
 simp only at h1 h2 h3 h4
 clear h0 hsz
 obtain ⟨k,rfl⟩:∃ m,k=m+1:=⟨k-1,by omega⟩
 rw [itemsL] at h4
 refine hg ?_
 refine condD (fun hne _=>?_) (fun he _=>?_)
 · have hne':=decide_eq_false hne
   rw [hne',cond_false] at h4
   have hd':=sDrop_size r 1
   refine hg ?_
   have hcs:=cutAfter_size (sDrop r 1)
   have hce:=cutIt_e (sDrop r 1)
   rw [hd'] at hcs
   refine hcall (cCut (sDrop r 1) (by rw [hd'];omega)) ?_
   refine hg ?_
   have g1:(cutAfter (sDrop r 1)).size<k:=by omega
   have g2:(cutAfter (sDrop r 1)).size≤1073741824:=by omega
   have g3:∀ x:It,(acc++[x]).length+(cutAfter (sDrop r 1)).size≤100:=fun x=>by rw [List.length_append,List.length_singleton];omega
   have g4:(cutAfter (sDrop r 1)).size<r.size:=by omega
   have hmap:∀ x:It,acc.map It.C++[itC x]=(acc++[x]).map It.C:=fun x=>by simp;rfl
   repeat' ((first | refine hfk ?_ ?_<;>intros | refine hik ?_)<;>refine hgS ?_)
   · exact bad _ (by rw [←h4];simp only [*];rfl) rfl
   · rename_i h47 _
     have h4':itemsL k (cutAfter (sDrop r 1)) (acc++[⟨(cutIt (sDrop r 1)).w,0-(cutIt (sDrop r 1)).e⟩])=itemsF s:=by
      rw [←h4];simp only [*,sgnIt];rfl
     refine ⟨(k,cutAfter (sDrop r 1),acc++[⟨(cutIt (sDrop r 1)).w,0-(cutIt (sDrop r 1)).e⟩]),?_,?_,?_⟩
     · dsimp only
       exact ⟨g1,g2,g3 _,h4'⟩
     · dsimp only
       exact g4
     rw [hmap ⟨(cutIt (sDrop r 1)).w,0-(cutIt (sDrop r 1)).e⟩]
     refine StH.back [2,3,4,5] 0 2 1 rfl rfl rfl rfl rfl (by kernel_rfl) ?_
     refine hg ?_
     exact StH.same (by repeat' first | exact .nil | refine .cons (by first | exact .refl _ | exact .any _) ?_) rfl
   · exfalso;omega
   · exfalso;omega
   · have h4':itemsL k (cutAfter (sDrop r 1)) (acc++[cutIt (sDrop r 1)])=itemsF s:=by
      rw [←h4];simp only [*,sgnIt];rfl
     refine ⟨(k,cutAfter (sDrop r 1),acc++[cutIt (sDrop r 1)]),?_,?_,?_⟩
     · dsimp only
       exact ⟨g1,g2,g3 _,h4'⟩
     · dsimp only
       exact g4
     try rw [hmap (cutIt (sDrop r 1))]
     refine StH.back [2,3,4,5] 0 2 1 rfl rfl rfl rfl rfl (by kernel_rfl) ?_
     refine hg ?_
     exact StH.same (by repeat' first | exact .nil | refine .cons (by first | exact .refl _ | exact .any _) ?_) rfl
   · exact bad _ (by rw [←h4];simp only [*];rfl) rfl
 · refine hg ?_
   have he':decide (r.size=0)=true:=decide_eq_true (by omega)
   rw [he',cond_true] at h4
   rw [←h4]
   exact RLe.ofEq rfl
theorem cURead (s:ByteArray) (hs:s.size≤1073741824):CallsD Γ prog 14 [.one (cS s)] (.tup [.agg (unO (uReadF s).1),.one (cI (uReadF s).2)]):=by
 refine CallsD.run [] Go.Proofs.Tryz.func14 rfl rfl rfl ?_;simp only [Go.Proofs.Tryz.f14];refine hgR ?_
 refine hcall (cItems s hs) ?_
 cases hi:itemsF s with
 | none=>
  conv=>simp (maxSteps:=2000000) (disch:=omega) only [go_sem,Nat.reduceAdd,Nat.reduceSub,Nat.reduceMul,Int.reduceToNat,Nat.reduceEqDiff,Nat.reduceBEq,Nat.reduceBneDiff,Nat.reduceLT,Int.reduceEq,Int.reduceLT,Int.reduceLE,Int.reduceNeg,Int.reduceAdd,Int.reduceSub,Int.reduceMul,Option.isSome,itO]
  exact RLe.ofEq (by simp only [uReadF,hi];rfl)
 | some l=>
  obtain ⟨hl,hx⟩:=itemsF_ok hi
  conv=>simp (maxSteps:=2000000) (disch:=omega) only [go_sem,Nat.reduceAdd,Nat.reduceSub,Nat.reduceMul,Int.reduceToNat,Nat.reduceEqDiff,Nat.reduceBEq,Nat.reduceBneDiff,Nat.reduceLT,Int.reduceEq,Int.reduceLT,Int.reduceLE,Int.reduceNeg,Int.reduceAdd,Int.reduceSub,Int.reduceMul,Option.isSome,itO]
  refine hcall (qInt 1 (by decide)) ?_
  refine hg ?_
  refine hloop [2,6,23,24] (fun p:Nat×Un=>[(25,.one (.dat (cI p.1)))]) (fun p=>[.box (unZ.map .dat) (some 49),.box ((unC p.2).map .dat) (some 49)])
   (fun p=>p.1≤l.length∧p.2.d.le (27*p.1)∧qs p.2.f≤1+100*p.1∧readL (l.drop p.1) p.2=readL l ⟨Dm.zero,(1:Int)⟩) (fun p=>l.length-p.1) (0,⟨Dm.zero,(1:Int)⟩) ⟨Nat.zero_le _,by unfold Dm.le;decide,qs_one,rfl⟩ ?_ ?_
  · refine hg ?_
    exact StH.same (by repeat' first | exact .nil | refine .cons (by first | exact .refl _ | exact .any _) ?_) rfl
  rintro ⟨i,u⟩ ⟨h1,h2,h3,h4⟩
  simp only at h1 h2 h3 h4
  refine hg ?_
  refine condD (fun hlt _=>?_) (fun hlt _=>?_)
  · have hlt':i<l.length:=by omega
    have hok:=hx _ (getD_mem hlt')
    rw [drop_getD hlt',readL] at h4
    refine hg ?_
    refine hcall (cUWord _ (by have:=hok.2.1;omega) hok.1) ?_
    cases hw:uWordF (l.getD i default).w with
    | none=>
     conv=>simp (maxSteps:=2000000) (disch:=omega) only [go_sem,Nat.reduceAdd,Nat.reduceSub,Nat.reduceMul,Int.reduceToNat,Nat.reduceEqDiff,Nat.reduceBEq,Nat.reduceBneDiff,Nat.reduceLT,Int.reduceEq,Int.reduceLT,Int.reduceLE,Int.reduceNeg,Int.reduceAdd,Int.reduceSub,Int.reduceMul,Option.isSome,unO]
     rw [hw] at h4
     exact RLe.ofEq (by simp only [uReadF,hi,←h4])
    | some v=>
     obtain ⟨hv1,hv2,hv3⟩:=uWordF_sm hw
     rw [hw] at h4
     obtain ⟨b1,b2,b3,b4,b5,b6⟩:=h2
     obtain ⟨d1,d2,d3,d4,d5,d6⟩:=hv1
     have he:=hok.2.2
     have c1:=mul27 d1 he
     have c2:=mul27 d2 he
     have c3:=mul27 d3 he
     have c4:=mul27 d4 he
     have c5:=mul27 d5 he
     have c6:=mul27 d6 he
     have hq:qs (timesF u.f v.f (l.getD i default).e)≤qs u.f+9*(qs v.f+1):=by
      have:=pw_qs u.f v.f (l.getD i default).e (l.getD i default).e.natAbs
      rw [←timesF_pw] at this
      have h9:(l.getD i default).e.natAbs*(qs v.f+1)≤9*(qs v.f+1):=Nat.mul_le_mul_right _ (by omega)
      omega
     have hle:(u.d.acc v.d (l.getD i default).e).le (27*(i+1:Nat)):=by
      have:=Dm.acc_le (x:=u.d) ⟨b1,b2,b3,b4,b5,b6⟩ ⟨d1,d2,d3,d4,d5,d6⟩ he
      rw [show (27*((i+1:Nat):Int))=27*i+27 from by omega]
      exact this
     conv=>simp (maxSteps:=2000000) (disch:=omega) only [go_sem,Nat.reduceAdd,Nat.reduceSub,Nat.reduceMul,Int.reduceToNat,Nat.reduceEqDiff,Nat.reduceBEq,Nat.reduceBneDiff,Nat.reduceLT,Int.reduceEq,Int.reduceLT,Int.reduceLE,Int.reduceNeg,Int.reduceAdd,Int.reduceSub,Int.reduceMul,Option.isSome,unO]
     repeat' ((first | refine hfk ?_ ?_<;>intros | refine hik ?_ | with_reducible refine hunroll ?_ | with_reducible refine hround ?_ | with_reducible first | refine hcall (cTimes u.f v.f (l.getD i default).e (by omega) (by omega) (by omega) hv3) ?_ | refine hcalle (cTimes u.f v.f (l.getD i default).e (by omega) (by omega) (by omega) hv3) ?_)<;>refine hgS ?_)
     refine ⟨(i+1,⟨u.d.acc v.d (l.getD i default).e,timesF u.f v.f (l.getD i default).e⟩),?_,?_,?_⟩
     · dsimp only
       exact ⟨by omega,hle,by omega,h4⟩
     · dsimp only
       omega
     refine StH.back [2,6,23,24,25] 2 2 2 rfl rfl rfl rfl rfl (by kernel_rfl) ?_
     refine hg ?_
     exact StH.same (by repeat' first | exact .nil | refine .cons (by first | exact .refl _ | exact .any _) ?_) rfl
  · have h4':readL l ⟨Dm.zero,(1:Int)⟩=some u:=by rw [←h4,List.drop_eq_nil_of_le (by omega)];rfl
    refine hg ?_
    repeat' ((first | refine hfk ?_ ?_<;>intros | refine hik ?_ | with_reducible first | refine hcall (cDimRight _) ?_ | refine hcalle (cDimRight _) ?_)<;>refine hgS ?_)
    all_goals
     rename_i hd
     exact RLe.ofEq (by simp only [uReadF,hi,h4',hd];rfl)
end Go.Hp.T
