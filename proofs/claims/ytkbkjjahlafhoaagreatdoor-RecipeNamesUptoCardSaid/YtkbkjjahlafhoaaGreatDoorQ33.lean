/- The proof, part Q33: 3n, 3l, 3o, Ya, Yb. -/
import Derived.Test.YtkbkjjahlafhoaaGreatDoorQ32
import Derived.Test.YtkbkjjahlafhoaaGreatDoorQ27
import Derived.Test.YtkbkjjahlafhoaaGreatDoorQ30
import Derived.Test.YtkbkjjahlafhoaaGreatDoorQ17
import Derived.Test.YtkbkjjahlafhoaaGreatDoorQ20
namespace Go.Hp.T
open Go Go.RowKit Go.Slot Go.Hp Go.Slot.T
set_option maxRecDepth 10000
variable {B:Nat} {q:ByteArray} {r:List Fc} {w:Wk} {x y v:Rat} {f:Fl}
def wus:ByteArray:=⟨#[115,104,101,101,116,32,109,32,123,32,105,109,112,111,114,116,32,102,108,111,117,114,32,34,107,103,34,32,53,32,61,32,51,32,58,32,111,117,116,32,58,32,49,32,59,32,105,110,112,117,116,32,103,97,115,32,34,107,103,34,32,99,111,50,32,59,32,99,101,108,108,32,119,32,34,34,32,61,32,51,32,59,32,99,101,108,108,32,118,32,34,34,32,61,32,49,32,59,32,112,111,114,116,32,98,114,101,97,100,32,34,107,103,34,32,57,32,59,32,115,116,111,114,101,32,115,105,108,111,32,34,107,103,34,32,102,105,114,115,116,32,59,32,114,101,99,105,112,101,32,99,111,50,32,123,32,109,101,116,101,114,32,112,32,61,32,103,97,115,32,59,32,116,97,107,101,32,113,32,61,32,102,108,111,117,114,32,59,32,115,112,108,105,116,32,112,32,105,110,116,111,32,97,32,58,32,119,32,44,32,98,32,58,32,118,32,59,32,106,111,105,110,32,97,32,44,32,113,32,105,110,116,111,32,114,32,59,32,103,105,118,101,32,114,32,116,111,32,98,114,101,97,100,32,59,32]⟩
def vyp:ByteArray:=⟨#[32,125,32,125]⟩
def exT (t:ByteArray):ByteArray:=wus++t++vyp
def exL:ByteArray:=⟨#[108,111,115,101,32,98,32,97,115,32,104,101,97,116,32,59]⟩
def exS5:List Stp:=[⟨0,[],[⟨#[112]⟩],⟨#[103,97,115]⟩,[],0⟩,⟨1,[],[⟨#[113]⟩],⟨#[102,108,111,117,114]⟩,[],0⟩,⟨3,[⟨#[112]⟩],[⟨#[97]⟩,⟨#[98]⟩],⟨#[]⟩,[⟨#[119]⟩,⟨#[118]⟩],0⟩,⟨4,[⟨#[97]⟩,⟨#[113]⟩],[⟨#[114]⟩],⟨#[]⟩,[],0⟩,⟨5,[⟨#[114]⟩],[],⟨#[98,114,101,97,100]⟩,[],0⟩]
def exS6:List Stp:=exS5++[⟨7,[⟨#[98]⟩],[],⟨#[104,101,97,116]⟩,[],0⟩]
def exSh (l:List Stp):Sht:=⟨⟨#[109]⟩,[⟨⟨#[102,108,111,117,114]⟩,⟨#[107,103]⟩,5,3,⟨#[111,117,116]⟩,1⟩],[⟨⟨#[103,97,115]⟩,⟨#[107,103]⟩,⟨#[99,111,50]⟩⟩],[],[],[⟨⟨#[119]⟩,⟨#[]⟩,.mk 0 3 ⟨#[]⟩ ⟨#[]⟩ []⟩,⟨⟨#[118]⟩,⟨#[]⟩,.mk 0 1 ⟨#[]⟩ ⟨#[]⟩ []⟩],[⟨⟨#[98,114,101,97,100]⟩,⟨#[107,103]⟩,9⟩],[⟨⟨#[115,105,108,111]⟩,⟨#[107,103]⟩,0⟩],[⟨⟨#[99,111,50]⟩,l⟩]⟩
def exTk (t:ByteArray):List Tk:=match yjj (exT t) with
 | .inl L=>L
 | .inr _=>[]
theorem xcg:yjj (exT exL)=.inl (exTk exL):=by kernel_rfl
theorem yar:yjj (exT ⟨#[]⟩)=.inl (exTk ⟨#[]⟩):=by kernel_rfl
theorem wed:ztg (exT exL) (exSh exS6):=⟨exTk exL,xcg,by kernel_rfl,by kernel_rfl⟩
theorem wsu:ztg (exT ⟨#[]⟩) (exSh exS5):=⟨exTk ⟨#[]⟩,yar,by kernel_rfl,by kernel_rfl⟩
theorem xt9:(exSh exS6).Sm:=znv (by kernel_rfl)
theorem zsj:(exSh exS5).Sm:=znv (by kernel_rfl)
theorem vch:vtb (exSh exS6)=true:=by kernel_rfl
theorem vo2:vtb (exSh exS5)=true:=by kernel_rfl
theorem wcz:vt5 (exSh exS6) 0=(0,0,[]):=by kernel_rfl
theorem zfc:(vt5 (exSh exS5) 0).1=21/\(vt5 (exSh exS5) 0).2.1=5:=⟨by kernel_rfl,by kernel_rfl⟩
def xnP:ByteArray:=⟨#[112]⟩
def xnQ:ByteArray:=⟨#[113]⟩
def xnA:ByteArray:=⟨#[97]⟩
def xnB:ByteArray:=⟨#[98]⟩
def xnR:ByteArray:=⟨#[114]⟩
def xnW:ByteArray:=⟨#[119]⟩
def xnV:ByteArray:=⟨#[118]⟩
def SzB (B:Nat) (m:Mf):Prop:=∀ p l,v7b m p=some l->l.length<=1000/\∀ x∈l,x.sz<=B
theorem SzB.m {B:Nat} {m:Mf} (h:SzB B m) (hB:B<=100000):SzM m:=⟨fun p l hl=>(h p l hl).1,fun p l hl x hx=>Nat.le_trans ((h p l hl).2 x hx) hB⟩
theorem SzB.upd {m:Mf} (h:SzB B m) (hl:r.length<=1000) (hx:∀ x∈r,x.sz<=B):SzB B (updF m q r):=fun p l hp=>by
 rcases wt8 hp with rfl | hp
 . exact ⟨hl,hx⟩
 . exact h p l hp
theorem SzB.app {m m':Mf} (h:SzB B m) (hl:r.length<=1000) (hx:∀ x∈r,x.sz<=B) (e:updF m q r=m'):SzB B m':=e▸h.upd hl hx
theorem x4o (x y:Fc):(divF x y).sz<=x.sz+y.sz+1:=by
 unfold divF
 split
 . rename_i h;have hx:=Fc.z2l h.1;have hy:=Fc.z2l h.2.1
   have:=yu7 x.val y.val
   unfold qs at this;rw [<-hx,<-hy] at this;exact this
 . rw [Fc.xar];omega
section
variable {a b c d wa wb:Fc}
abbrev exC2 (a b c d:Fc):List Sc:=[⟨a,b⟩,⟨c,d⟩]
abbrev exW (a b c d:Fc) (n:Nat):Wk:=ytm (exSh exS6) (exC2 a b c d) exS6 nilW n
theorem zaa (l:List Stp):idxC (exSh l) xnW=0/\idxC (exSh l) xnV=1:=⟨by kernel_rfl,by kernel_rfl⟩
theorem ztn (l:List Stp):valF (exSh l) (exC2 a b c d) xnW=⟨a,b⟩/\valF (exSh l) (exC2 a b c d) xnV=⟨c,d⟩:=by
 unfold valF;rw [(zaa l).1,(zaa l).2];exact ⟨rfl,rfl⟩
abbrev exX:Stp:=⟨3,[xnP],[xnA,xnB],⟨#[]⟩,[xnW,xnV],0⟩
theorem w4y (l:List Stp):sumV (exSh l) (exC2 a b c d) [xnW,xnV]=Fc.add (Fc.add (Fc.of 0) a) c:=by
 unfold sumV;rw [List.foldl_cons,List.foldl_cons,List.foldl_nil,(ztn l).1,(ztn l).2]
theorem vyy (l:List Stp):wtL (exSh l) (exC2 a b c d) [xnW,xnV]=[divF a (Fc.add (Fc.add (Fc.of 0) a) c),divF c (Fc.add (Fc.add (Fc.of 0) a) c)]:=by
 unfold wtL;rw [w4y,List.map_cons,List.map_cons,List.map_nil,(ztn l).1,(ztn l).2]
theorem wy9:exW a b c d 1=⟨[(xnP,[Fc.of 1])],[⟨0,0,0⟩],[],[]⟩:=by kernel_rfl
theorem vcg:exW a b c d 2=⟨[(xnP,[Fc.of 1]),(xnQ,[Fc.of 0,Fc.of 1])],[⟨0,0,0⟩,⟨1,0,0⟩],[],[]⟩:=by kernel_rfl
def exR (w:Fc):List Fc:=[Fc.mul (Fc.add (Fc.of 0) (Fc.of 1)) w,Fc.mul (Fc.add (Fc.of 0) (Fc.of 0)) w]
def exJ (w:Fc):List Fc:=[Fc.mul (Fc.add (Fc.add (Fc.of 0) (Fc.mul (Fc.add (Fc.of 0) (Fc.of 1)) w)) (Fc.of 0)) (Fc.of 1),Fc.mul (Fc.add (Fc.add (Fc.of 0) (Fc.mul (Fc.add (Fc.of 0) (Fc.of 0)) w)) (Fc.of 1)) (Fc.of 1)]
theorem w1x {s:Sht} {cs:List Sc} {x:Stp} (hk:x.kind=3) {wt:List Fc} (h:wtF s cs x.cells=wt):vlo s cs w x=setM w (zlv w.srcs.length x.inn wt x.out w.m x.out.length):=by
 unfold vlo;rw [hk,h];rfl
theorem zfp (h:wtE (exSh exS6) (exC2 a b c d) [xnW,xnV]=0) (ha:divF a (Fc.add (Fc.add (Fc.of 0) a) c)=wa) (hb:divF c (Fc.add (Fc.add (Fc.of 0) a) c)=wb):exW a b c d 3=⟨[(xnP,[Fc.of 1]),(xnQ,[Fc.of 0,Fc.of 1]),(xnA,exR wa),(xnB,exR wb)],[⟨0,0,0⟩,⟨1,0,0⟩],[],[]⟩:=by
 have e:wtF (exSh exS6) (exC2 a b c d) exX.cells=[wa,wb]:=by
  show wtF (exSh exS6) (exC2 a b c d) [xnW,xnV]=_;unfold wtF;rw [h,vyy,ha,hb];rfl
 show vlo (exSh exS6) (exC2 a b c d) (exW a b c d 2) exX=_;rw [w1x rfl e,vcg];kernel_rfl
theorem z5n (h3:exW a b c d 3=⟨[(xnP,[Fc.of 1]),(xnQ,[Fc.of 0,Fc.of 1]),(xnA,exR wa),(xnB,exR wb)],[⟨0,0,0⟩,⟨1,0,0⟩],[],[]⟩):exW a b c d 4=⟨[(xnP,[Fc.of 1]),(xnQ,[Fc.of 0,Fc.of 1]),(xnA,exR wa),(xnB,exR wb),(xnR,exJ wa)],[⟨0,0,0⟩,⟨1,0,0⟩],[],[]⟩:=by
 show vlo (exSh exS6) (exC2 a b c d) (exW a b c d 3) (exS6.getD 3 default)=_;rw [h3];kernel_rfl
theorem wbq (h4:exW a b c d 4=⟨[(xnP,[Fc.of 1]),(xnQ,[Fc.of 0,Fc.of 1]),(xnA,exR wa),(xnB,exR wb),(xnR,exJ wa)],[⟨0,0,0⟩,⟨1,0,0⟩],[],[]⟩):exW a b c d 5=⟨[(xnP,[Fc.of 1]),(xnQ,[Fc.of 0,Fc.of 1]),(xnA,exR wa),(xnB,exR wb),(xnR,exJ wa)],[⟨0,0,0⟩,⟨1,0,0⟩],[⟨0,0,0,⟨#[]⟩⟩],[exJ wa]⟩:=by
 show vlo (exSh exS6) (exC2 a b c d) (exW a b c d 4) (exS6.getD 4 default)=_;rw [h4];kernel_rfl
theorem z6l (h5:exW a b c d 5=⟨[(xnP,[Fc.of 1]),(xnQ,[Fc.of 0,Fc.of 1]),(xnA,exR wa),(xnB,exR wb),(xnR,exJ wa)],[⟨0,0,0⟩,⟨1,0,0⟩],[⟨0,0,0,⟨#[]⟩⟩],[exJ wa]⟩):exW a b c d 6=⟨[(xnP,[Fc.of 1]),(xnQ,[Fc.of 0,Fc.of 1]),(xnA,exR wa),(xnB,exR wb),(xnR,exJ wa)],[⟨0,0,0⟩,⟨1,0,0⟩],[⟨0,0,0,⟨#[]⟩⟩,⟨2,0,0,⟨#[104,101,97,116]⟩⟩],[exJ wa,exR wb]⟩:=by
 show vlo (exSh exS6) (exC2 a b c d) (exW a b c d 5) (exS6.getD 5 default)=_;rw [h5];kernel_rfl
theorem v36 (hw1:wa.sz<=100) (hw2:wb.sz<=100) {m:Mf} (hm:m=[(xnP,[Fc.of 1]),(xnQ,[Fc.of 0,Fc.of 1])]\/m=[(xnP,[Fc.of 1]),(xnQ,[Fc.of 0,Fc.of 1]),(xnA,exR wa)]\/m=[(xnP,[Fc.of 1]),(xnQ,[Fc.of 0,Fc.of 1]),(xnA,exR wa),(xnB,exR wb)]\/m=[(xnP,[Fc.of 1]),(xnQ,[Fc.of 0,Fc.of 1]),(xnA,exR wa),(xnB,exR wb),(xnR,exJ wa)]):SzM m:=by
 have z0:=zyp;have z1:=wzi;have a1:=Fc.zgp (Fc.of 0) (Fc.of 1);have a0:=Fc.zgp (Fc.of 0) (Fc.of 0)
 have hR:∀ w:Fc,w.sz<=100->(exR w).length<=1000/\∀ x∈exR w,x.sz<=1000:=fun w hw=>by
  refine ⟨by show 2<=1000;decide,fun x hx=>?_⟩;have b1:=Fc.wly (Fc.add (Fc.of 0) (Fc.of 1)) w;have b0:=Fc.wly (Fc.add (Fc.of 0) (Fc.of 0)) w;unfold exR at hx
  rcases List.mem_cons.1 hx with rfl | hx
  . omega
  . rw [List.mem_singleton.1 hx];omega
 have hJ:(exJ wa).length<=1000/\∀ x∈exJ wa,x.sz<=1000:=by
  refine ⟨by show 2<=1000;decide,fun x hx=>?_⟩;have b1:=Fc.wly (Fc.add (Fc.of 0) (Fc.of 1)) wa;have b0:=Fc.wly (Fc.add (Fc.of 0) (Fc.of 0)) wa;unfold exJ at hx
  rcases List.mem_cons.1 hx with rfl | hx
  . have c1:=Fc.zgp (Fc.of 0) (Fc.mul (Fc.add (Fc.of 0) (Fc.of 1)) wa);have c2:=Fc.zgp (Fc.add (Fc.of 0) (Fc.mul (Fc.add (Fc.of 0) (Fc.of 1)) wa)) (Fc.of 0);have c3:=Fc.wly (Fc.add (Fc.add (Fc.of 0) (Fc.mul (Fc.add (Fc.of 0) (Fc.of 1)) wa)) (Fc.of 0)) (Fc.of 1);omega
  . rw [List.mem_singleton.1 hx];have c1:=Fc.zgp (Fc.of 0) (Fc.mul (Fc.add (Fc.of 0) (Fc.of 0)) wa);have c2:=Fc.zgp (Fc.add (Fc.of 0) (Fc.mul (Fc.add (Fc.of 0) (Fc.of 0)) wa)) (Fc.of 1);have c3:=Fc.wly (Fc.add (Fc.add (Fc.of 0) (Fc.mul (Fc.add (Fc.of 0) (Fc.of 0)) wa)) (Fc.of 1)) (Fc.of 1);omega
 have hN:SzB 1000 []:=fun p l h=>by cases h
 have hP:SzB 1000 [(xnP,[Fc.of 1])]:=hN.app (q:=xnP) (r:=[Fc.of 1]) (by decide) (fun x hx=>by rw [List.mem_singleton.1 hx];omega) rfl
 have hQ:SzB 1000 [(xnP,[Fc.of 1]),(xnQ,[Fc.of 0,Fc.of 1])]:=hP.app (q:=xnQ) (r:=[Fc.of 0,Fc.of 1]) (by decide) (fun x hx=>by
  rcases List.mem_cons.1 hx with rfl | hx
  . omega
  . rw [List.mem_singleton.1 hx];omega) (by kernel_rfl)
 have hA:SzB 1000 [(xnP,[Fc.of 1]),(xnQ,[Fc.of 0,Fc.of 1]),(xnA,exR wa)]:=hQ.app (q:=xnA) (r:=exR wa) (hR wa hw1).1 (hR wa hw1).2 (by kernel_rfl);have hB:SzB 1000 [(xnP,[Fc.of 1]),(xnQ,[Fc.of 0,Fc.of 1]),(xnA,exR wa),(xnB,exR wb)]:=hA.app (q:=xnB) (r:=exR wb) (hR wb hw2).1 (hR wb hw2).2 (by kernel_rfl);have hC:SzB 1000 [(xnP,[Fc.of 1]),(xnQ,[Fc.of 0,Fc.of 1]),(xnA,exR wa),(xnB,exR wb),(xnR,exJ wa)]:=hB.app (q:=xnR) (r:=exJ wa) hJ.1 hJ.2 (by kernel_rfl)
 rcases hm with rfl | rfl | rfl | rfl
 . exact hQ.m (by decide)
 . exact hA.m (by decide)
 . exact hB.m (by decide)
 . exact hC.m (by decide)
theorem x3h {x:Stp} (hm:SzM w.m) (hs:Nat.ble w.srcs.length 2=true) (ho:Nat.ble w.outs.length 2=true) (hh:Nat.ble w.shares.length 2=true) (il:x.inn.length<=2) (ol:x.out.length<=2) (s1:x.kind<=2->0<x.out.length) (s2:x.kind=3->WtOk (exSh exS6) (exC2 a b c d) x.cells/\(wtE (exSh exS6) (exC2 a b c d) x.cells=0->x.out.length<=x.cells.length/\∀ k,k<=x.out.length->SzM (zlv w.srcs.length x.inn (wtL (exSh exS6) (exC2 a b c d) x.cells) x.out w.m k))/\∀ y∈wtL (exSh exS6) (exC2 a b c d) x.cells,y.sz<=100000)
 (s3:x.kind=4->0<x.out.length) (s4:5<=x.kind->0<x.inn.length/\∃ l,v7b w.m (x.inn.getD 0 default)=some l):v3d (exSh exS6) (exC2 a b c d) w x:=
 ⟨hm,by have:=Nat.le_of_ble_eq_true hs;omega,by have:=Nat.le_of_ble_eq_true ho;omega,by have:=Nat.le_of_ble_eq_true hh;omega,by omega,by omega,by decide,by decide,by decide,by decide,by decide,s1,s2,s3,s4⟩
theorem xrq (ha:a.ok) (hc:c.ok) (la:a.sz<=5) (lb:b.sz<=5) (lc:c.sz<=5) (ld:d.sz<=5):wjm (exSh exS6) (exC2 a b c d) exS6:=by
 have z0:=zyp;have t1:=Fc.zgp (Fc.of 0) a;have t2:=Fc.zgp (Fc.add (Fc.of 0) a) c;obtain ⟨wa,hwa⟩:∃ wa,divF a (Fc.add (Fc.add (Fc.of 0) a) c)=wa:=⟨_,rfl⟩;obtain ⟨wb,hwb⟩:∃ wb,divF c (Fc.add (Fc.add (Fc.of 0) a) c)=wb:=⟨_,rfl⟩
 have l1:wa.sz<=100:=by have:=x4o a (Fc.add (Fc.add (Fc.of 0) a) c);rw [hwa] at this;omega
 have l2:wb.sz<=100:=by have:=x4o c (Fc.add (Fc.add (Fc.of 0) a) c);rw [hwb] at this;omega
 have hwt:wtL (exSh exS6) (exC2 a b c d) [xnW,xnV]=[wa,wb]:=by rw [vyy,hwa,hwb]
 have hm:=fun m=>v36 (wa:=wa) (wb:=wb) l1 l2 (m:=m)
 have hP:SzM [(xnP,[Fc.of 1])]:=by
  have:SzB 1 [(xnP,[Fc.of 1])]:=SzB.upd (m:=[]) (fun p l h=>by cases h) (by decide) (fun x hx=>by rw [List.mem_singleton.1 hx];exact wzi)
  exact this.m (by decide)
 have h3:=fun h=>zfp (a:=a) (b:=b) (c:=c) (d:=d) h hwa hwb
 have hlk:∀ n∈[xnW,xnV],(n=xnW\/n=xnV):=fun n hn=>by simpa using hn
 have hWt:WtOk (exSh exS6) (exC2 a b c d) [xnW,xnV]:=by
  refine ⟨by decide,fun n hn=>?_,fun n hn=>?_,fun n hn=>?_,fun n hn=>?_⟩<;>rcases hlk n hn with rfl | rfl
  . rw [(zaa _).1];exact ⟨by decide,by show 0<2;decide⟩
  . rw [(zaa _).2];exact ⟨by decide,by show 1<2;decide⟩
  . rw [(ztn _).1];exact ha
  . rw [(ztn _).2];exact hc
  . rw [(ztn _).1];dsimp only;omega
  . rw [(ztn _).2];dsimp only;omega
  . rw [(ztn _).1];dsimp only;omega
  . rw [(ztn _).2];dsimp only;omega
 have e3:∀ n,2<n->(∀ j,j<n->errW (exSh exS6) (exC2 a b c d) (exS6.getD j default)=0)->wtE (exSh exS6) (exC2 a b c d) [xnW,xnV]=0:=fun n hn h=>h 2 hn
 refine ⟨by decide,fun n hn=>?_,fun n hn hj=>?_,fun hj=>?_⟩
 . have hn:n<6:=hn
   rcases show n=0\/n=1\/n=2\/n=3\/n=4\/n=5 by omega with rfl | rfl | rfl | rfl | rfl | rfl<;>exact ⟨by decide,by decide⟩
 . have hn:n<6:=hn
   rcases show n=0\/n=1\/n=2\/n=3\/n=4\/n=5 by omega with rfl | rfl | rfl | rfl | rfl | rfl
   . exact x3h (w:=nilW) ⟨fun p l h=>(by cases h),fun p l h=>(by cases h)⟩ rfl rfl rfl (by decide) (by decide) (fun _=>by decide) (fun h=>absurd h (by decide)) (fun h=>absurd h (by decide)) (fun h=>absurd h (by decide))
   . rw [show ytm (exSh exS6) (exC2 a b c d) exS6 nilW 1=_ from wy9];exact x3h hP rfl rfl rfl (by decide) (by decide) (fun _=>by decide) (fun h=>absurd h (by decide)) (fun h=>absurd h (by decide)) (fun h=>absurd h (by decide))
   . rw [show ytm (exSh exS6) (exC2 a b c d) exS6 nilW 2=_ from vcg];refine x3h (hm _ (.inl rfl)) rfl rfl rfl (by decide) (by decide) (fun h=>absurd h (by decide)) (fun _=>⟨hWt,fun _=>⟨by decide,fun k hk=>?_⟩,fun y hy=>?_⟩) (fun h=>absurd h (by decide)) (fun h=>absurd h (by decide))
     . rw [show wtL (exSh exS6) (exC2 a b c d) (exS6.getD 2 default).cells=[wa,wb] from hwt];have hk:k<=2:=hk
       rcases show k=0\/k=1\/k=2 by omega with rfl | rfl | rfl
       . exact hm _ (.inl rfl)
       . exact hm _ (.inr (.inl (by kernel_rfl)))
       . exact hm _ (.inr (.inr (.inl (by kernel_rfl))))
     . rw [show wtL (exSh exS6) (exC2 a b c d) (exS6.getD 2 default).cells=[wa,wb] from hwt] at hy
       rcases List.mem_cons.1 hy with rfl | hy
       . omega
       . rw [List.mem_singleton.1 hy];omega
   . rw [show ytm (exSh exS6) (exC2 a b c d) exS6 nilW 3=_ from h3 (e3 3 (by decide) hj)];exact x3h (hm _ (.inr (.inr (.inl rfl)))) rfl rfl rfl (by decide) (by decide) (fun h=>absurd h (by decide)) (fun h=>absurd h (by decide)) (fun _=>by decide) (fun h=>absurd h (by decide))
   . rw [show ytm (exSh exS6) (exC2 a b c d) exS6 nilW 4=_ from z5n (h3 (e3 4 (by decide) hj))];exact x3h (hm _ (.inr (.inr (.inr rfl)))) rfl rfl rfl (by decide) (by decide) (fun h=>absurd h (by decide)) (fun h=>absurd h (by decide)) (fun h=>absurd h (by decide)) (fun _=>⟨by decide,exJ wa,by kernel_rfl⟩)
   . rw [show ytm (exSh exS6) (exC2 a b c d) exS6 nilW 5=_ from wbq (z5n (h3 (e3 5 (by decide) hj)))];exact x3h (hm _ (.inr (.inr (.inr rfl)))) rfl rfl rfl (by decide) (by decide) (fun h=>absurd h (by decide)) (fun h=>absurd h (by decide)) (fun h=>absurd h (by decide)) (fun _=>⟨by decide,exR wb,by kernel_rfl⟩)
 . rw [show ytm (exSh exS6) (exC2 a b c d) exS6 nilW exS6.length=_ from z6l (wbq (z5n (h3 (e3 6 (by decide) hj))))];have hz:=hm _ (.inr (.inr (.inr rfl)));intro r hr
   rcases List.mem_cons.1 hr with rfl | hr
   . exact ⟨by show 0<2;decide,by show 2<=1000;decide,hz.sz xnR (exJ wa) (by kernel_rfl)⟩
   . rw [List.mem_singleton.1 hr];exact ⟨by show 0<2;decide,by show 2<=1000;decide,hz.sz xnB (exR wb) (by kernel_rfl)⟩
end
theorem yw0 (h:¬Fc.sign (Fc.of x)<0):0<=x:=by
 rw [Fc.x7c] at h;refine Rat.num_nonneg.1 ?_;by_cases hx:x.num<0
 . rw [zrk hx] at h;omega
 . omega
theorem y91 (h:0<=x):¬Fc.sign (Fc.of x)<0:=by
 rw [Fc.x7c]
 have:=Rat.num_nonneg.2 h
 intro h'
 rcases yo8 x.num with ⟨_,e⟩ | ⟨_,e⟩ | ⟨_,e⟩<;>omega
theorem w01 {a:List Fc} (h:yed f a=true):vkz f=true/\a.length=f.srcs.length/\∀ x∈a,x.ok:=by
 unfold yed at h;simp only [Bool.and_eq_true,decide_eq_true_eq,Bool.not_eq_true',List.any_eq_false,decide_eq_false_iff_not,Classical.not_not] at h;exact h
theorem wbb {a:List Fc} (h1:vkz f=true) (h2:a.length=f.srcs.length) (h3:∀ x∈a,x.ok):yed f a=true:=by
 unfold yed;simp only [Bool.and_eq_true,decide_eq_true_eq,Bool.not_eq_true',List.any_eq_false,decide_eq_false_iff_not,Classical.not_not];exact ⟨h1,h2,h3⟩
theorem wqa (h:x<=y):(⟨Fc.of x,Fc.of y⟩:Sc).ok:=by
 refine ⟨Fc.wvr x,Fc.wvr y,?_⟩;show Fc.cmp (Fc.of x) (Fc.of y)<=0;rw [Fc.yzc]
 rcases Fc.x99 x y with ⟨_,e⟩ | ⟨_,e⟩ | ⟨h',_⟩
 . omega
 . omega
 . exact absurd h (Rat.not_le.2 h')
theorem y3u {u:Rat} (h1:x<=y) (h2:u<=v):badA (exSh exS6) 0 (exC2 (Fc.of x) (Fc.of y) (Fc.of u) (Fc.of v))=false:=by
 unfold badA
 rw [vch,show (exC2 (Fc.of x) (Fc.of y) (Fc.of u) (Fc.of v)).any (fun v=>!decide v.ok)=false by
  rw [List.any_cons,List.any_cons,List.any_nil,decide_eq_true (wqa h1),decide_eq_true (wqa h2)];rfl]
 rfl
theorem zoo {u:Rat} (h1:x<=y) (h2:u<=v):badA (exSh exS5) 0 (exC2 (Fc.of x) (Fc.of y) (Fc.of u) (Fc.of v))=false:=by
 unfold badA
 rw [vo2,show (exC2 (Fc.of x) (Fc.of y) (Fc.of u) (Fc.of v)).any (fun v=>!decide v.ok)=false by
  rw [List.any_cons,List.any_cons,List.any_nil,decide_eq_true (wqa h1),decide_eq_true (wqa h2)];rfl]
 rfl
theorem wn0 {a b c d:Fc}:zwk (exSh exS6) (exC2 a b c d) exS6 0=bif decide (wtE (exSh exS6) (exC2 a b c d) [xnW,xnV]=0) then none else some (wtE (exSh exS6) (exC2 a b c d) [xnW,xnV],2):=by
 have e2:errW (exSh exS6) (exC2 a b c d) (exS6.getD 2 default)=wtE (exSh exS6) (exC2 a b c d) [xnW,xnV]:=rfl
 have e0:∀ j,j<6->j≠2->errW (exSh exS6) (exC2 a b c d) (exS6.getD j default)=0:=fun j hj h2=>by
  rcases show j=0\/j=1\/j=3\/j=4\/j=5 by omega with rfl | rfl | rfl | rfl | rfl<;>rfl
 by_cases h:wtE (exSh exS6) (exC2 a b c d) [xnW,xnV]=0
 . rw [decide_eq_true h,cond_true];refine vvp (fun j hj=>?_);by_cases h2:j=2
   . rw [h2,e2];exact h
   . exact e0 j hj h2
 . rw [decide_eq_false h,cond_false,<-e2];exact y1o (by decide +kernel) (fun j hj=>e0 j (by omega) (by omega)) (by rw [e2];exact h)
theorem exWt {u:Rat}:wtE (exSh exS6) (exC2 (Fc.of x) (Fc.of y) (Fc.of u) (Fc.of v)) [xnW,xnV]=bif badV ⟨Fc.of x,Fc.of y⟩||badV ⟨Fc.of u,Fc.of v⟩ then 3 else bif decide (x+u=0) then 15 else 0:=by
 unfold wtE;rw [List.any_cons,List.any_cons,List.any_nil,(ztn _).1,(ztn _).2,Bool.or_false,w4y,Fc.vmb,Fc.vmb,Rat.zero_add,Fc.x7c,decide_eq_decide.2 (wio (y:=x+u))]
theorem yav (h:0<=x):badV ⟨Fc.of x,Fc.of x⟩=false:=by
 unfold badV;rw [decide_eq_true rfl,decide_eq_false (y91 h)];rfl
theorem v6c (h:¬x=y):badV ⟨Fc.of x,Fc.of y⟩=true:=by
 unfold badV;rw [decide_eq_false (fun e=>h (Fc.y7o e))];rfl
def zrx:Fl:=⟨[⟨0,0,0⟩,⟨1,0,0⟩],[⟨0,0,0,⟨#[]⟩⟩,⟨2,0,0,⟨#[104,101,97,116]⟩⟩],[[Fc.of (3 / 4),Fc.of 1],[Fc.of (1 / 4),Fc.of 0]]⟩
theorem v48:ww1 (exSh exS6) 0 (exC2 (Fc.of 3) (Fc.of 3) (Fc.of 1) (Fc.of 1))=(zrx,0,0):=by
 have hw:wtE (exSh exS6) (exC2 (Fc.of 3) (Fc.of 3) (Fc.of 1) (Fc.of 1)) [xnW,xnV]=0:=by
  rw [exWt,yav (by decide +kernel),yav (by decide +kernel),decide_eq_false (by decide +kernel)];rfl
 have ha:divF (Fc.of 3) (Fc.add (Fc.add (Fc.of 0) (Fc.of 3)) (Fc.of 1))=Fc.of (3 / 4):=by
  rw [Fc.vmb,Fc.vmb,v8u (by decide +kernel)];exact congrArg Fc.of (by decide +kernel)
 have hb:divF (Fc.of 1) (Fc.add (Fc.add (Fc.of 0) (Fc.of 3)) (Fc.of 1))=Fc.of (1 / 4):=by
  rw [Fc.vmb,Fc.vmb,v8u (by decide +kernel)];exact congrArg Fc.of (by decide +kernel)
 have h6:=z6l (wbq (z5n (zfp hw ha hb)));unfold ww1;rw [y3u (by decide +kernel) (by decide +kernel),cond_false,wcz,show (exSh exS6).recipes.getD (0:Int).toNat default=⟨⟨#[99,111,50]⟩,exS6⟩ from rfl];dsimp only;rw [wn0,hw];show (xjd (exW (Fc.of 3) (Fc.of 3) (Fc.of 1) (Fc.of 1) 6),0,0)=_;rw [h6];unfold xjd zrx exJ exR;simp only [List.map_cons,List.map_nil,wsy,List.length_cons,List.length_nil,List.replicate_zero,List.append_nil,Nat.sub_self,Fc.vmb,Fc.vk5]
 have e1:(0+(0+1)*(3 / 4)+0)*1+0=(3 / 4:Rat):=by decide +kernel
 have e2:(0+(0+0)*(3 / 4)+1)*1+0=(1:Rat):=by decide +kernel
 have e3:(0+1)*(1 / 4)+0=(1 / 4:Rat):=by decide +kernel
 have e4:(0+0)*(1 / 4)+0=(0:Rat):=by decide +kernel
 rw [e1,e2,e3,e4]
theorem yr1:ww1 (exSh exS6) 0 (exC2 (Fc.of 3) (Fc.of 4) (Fc.of 1) (Fc.of 1))=(⟨[],[],[]⟩,3,2):=by
 have hw:wtE (exSh exS6) (exC2 (Fc.of 3) (Fc.of 4) (Fc.of 1) (Fc.of 1)) [xnW,xnV]=3:=by
  rw [exWt,v6c (by decide +kernel)];rfl
 unfold ww1;rw [y3u (by decide +kernel) (by decide +kernel),cond_false,wcz,show (exSh exS6).recipes.getD (0:Int).toNat default=⟨⟨#[99,111,50]⟩,exS6⟩ from rfl];dsimp only;rw [wn0,hw];rfl
theorem wzg:ww1 (exSh exS6) 0 (exC2 (Fc.of 0) (Fc.of 0) (Fc.of 0) (Fc.of 0))=(⟨[],[],[]⟩,15,2):=by
 have hw:wtE (exSh exS6) (exC2 (Fc.of 0) (Fc.of 0) (Fc.of 0) (Fc.of 0)) [xnW,xnV]=15:=by
  rw [exWt,yav (by decide +kernel),decide_eq_true (by decide +kernel)];rfl
 unfold ww1;rw [y3u (by decide +kernel) (by decide +kernel),cond_false,wcz,show (exSh exS6).recipes.getD (0:Int).toNat default=⟨⟨#[99,111,50]⟩,exS6⟩ from rfl];dsimp only;rw [wn0,hw];rfl
theorem xna:ww1 (exSh exS5) 0 (exC2 (Fc.of 3) (Fc.of 3) (Fc.of 1) (Fc.of 1))=(⟨[],[],[]⟩,21,5):=by
 unfold ww1;rw [zoo (by decide +kernel) (by decide +kernel),cond_false,zfc.1,zfc.2];rfl
theorem zse:yed zrx [Fc.of 8,Fc.of 5]=true/\runF zrx [Fc.of 8,Fc.of 5]=[Fc.of 11,Fc.of 2]:=by
 have ho:∀ x:Rat,decide (Fc.of x).ok=true:=fun x=>decide_eq_true (Fc.wvr x)
 have hs:∀ x:Rat,0<=x->decide (Fc.sign (Fc.of x)<0)=false:=fun x h=>decide_eq_false (y91 h)
 have hr:vkz zrx=true:=by
  unfold vkz
  have h1:v2n zrx=true:=by
   refine ye3 (fun k hk=>?_);have hk:k<2:=hk
   rcases show k=0\/k=1 by omega with rfl | rfl<;>rfl
  have h2:yp2 zrx=true:=by
   refine ye3 (fun i hi=>?_);have hi:i<2:=hi
   rcases show i=0\/i=1 by omega with rfl | rfl
   . show (true&&colF 0 [[Fc.of (3 / 4),Fc.of 1],[Fc.of (1 / 4),Fc.of 0]] (Fc.of 0))=true;unfold colF colF colF;simp only [List.getD_cons_zero,ho,hs (3 / 4) (by decide +kernel),hs (1 / 4) (by decide +kernel),Fc.vmb,Bool.not_false,Bool.true_and];exact decide_eq_true (congrArg Fc.of (by decide +kernel))
   . show (true&&colF 1 [[Fc.of (3 / 4),Fc.of 1],[Fc.of (1 / 4),Fc.of 0]] (Fc.of 0))=true;unfold colF colF colF;simp only [List.getD_cons_succ,List.getD_cons_zero,ho,hs 1 (by decide +kernel),hs 0 (by decide +kernel),Fc.vmb,Bool.not_false,Bool.true_and];exact decide_eq_true (congrArg Fc.of (by decide +kernel))
  rw [h1,h2];rfl
 have hok:yed zrx [Fc.of 8,Fc.of 5]=true:=by
  unfold yed;rw [hr,List.any_cons,List.any_cons,List.any_nil,ho,ho];rfl
 refine ⟨hok,?_⟩;unfold runF;rw [hok,cond_true];show [dotN [Fc.of 8,Fc.of 5] [Fc.of (3 / 4),Fc.of 1] 2,dotN [Fc.of 8,Fc.of 5] [Fc.of (1 / 4),Fc.of 0] 2]=_;simp only [xae,y42,List.getD_cons_succ,List.getD_cons_zero,Fc.vmb,Fc.vk5]
 have e1:0+3 / 4*8+1*5=(11:Rat):=by decide +kernel
 have e2:0+1 / 4*8+0*5=(2:Rat):=by decide +kernel
 rw [e1,e2]
end Go.Hp.T
namespace Go.Hp.T
open Go Go.RowKit Go.Slot Go.Hp Go.Slot.T
open Go.Proofs.Tryz
attribute [local irreducible] hide RH
set_option maxRecDepth 10000
set_option maxHeartbeats 8000000
variable {Γ:List (Nat×List Cell)}
theorem ygf (L:List Int) (i:Nat) (_hL:L.length<=1099511627776) (hi:(i:Int)<=1099511627776) :
 CallsD Γ prog 197 [.one (.ints .i64 L),.one (.raw (.int .i64 i))] (.one (.raw (.int .i64 (L.getD i 0)))):=by
 refine hE [] func197 f197.eq_1 ?_;refine y8g (fun h _=>?_) (fun h _=>?_)
 . refine hg ?_;exact (.one (.refl _))
 . refine hg ?_;exact (by rw [zg7 (by omega)];exact .one (.refl _))
theorem x4l (L:List Int) (hL:L.length<=1099511627776):CallsD Γ prog 170 [.one (.ints .i64 L)] (.one (.ints .i64 (y7d L))):=by
 refine hE [] func170 f170.eq_1 ?_;refine wf5 [0,2] (fun n:Nat=>[(3,.one (.dat (cI (n))))]) (fun _=>[])
  (fun n=>n<=L.length/\x2r L L.length=x2r L n) (fun n=>n) L.length ⟨Nat.le_refl _,rfl⟩ ?_ ?_
 . refine hg ?_;exact sS
 rintro n ⟨hn,ht⟩;refine hg ?_
 have fin:x2r L L.length=n->y7d L=L.take n:=fun h=>by unfold y7d;rw [h]
 refine vpz (fun h _=>?_) (fun h _=>?_)
 . obtain ⟨m,rfl⟩:∃ m,n=m+1:=⟨n-1,by omega⟩
   have e:((m+1:Nat):Int)-1=(m:Nat):=by omega
   have h':=decide_eq_true h;refine hg2 @h' @e ?_;refine y8g (fun h2 _=>?_) (fun h2 _=>?_)
   . refine hg1 @e ?_;exact ⟨m,⟨by omega,by rw [ht];simp only [x2r];rw [if_pos h2]⟩,by omega,sS⟩
   . have hfin:x2r L L.length=m+1:=by rw [ht];simp only [x2r];rw [if_neg h2]
     rw [fin hfin];refine hg3 @e @Nat.sub_zero @List.length_take.{0} ?_;exact RLe.ofEq rfl
 . have h0:n=0:=by omega
   subst h0;rw [fin (by rw [ht];rfl)]
   conv=>simp (maxSteps:=2000000) (disch:=omega) only [go_sem,Nat.reduceAdd,Nat.reduceSub,Nat.reduceMul,Int.reduceToNat,Nat.reduceEqDiff,Nat.reduceBEq,Nat.reduceBneDiff,Nat.reduceLT,Int.reduceEq,Int.reduceLT,Int.reduceLE,Int.reduceNeg,Int.reduceAdd,Int.reduceSub,Int.reduceMul,h,Nat.sub_zero,List.length_take,Int.reduceLT,decide_false]
   exact (.one (.refl _))
theorem xvm (s:Int) (L:List Int) (hL:L.length<=1099511627776) :
 CallsD Γ prog 142 [.one (.raw (.int .i64 s)),.one (.ints .i64 L)] (.agg (bigC (if y7d L=[] then 0 else s) (y7d L))):=by
 refine hE [] func142 f142.eq_1 ?_
 first | refine wdy (x4l L hL) ?_ | refine y04 (x4l L hL) ?_
 refine hg ?_;refine y8g (fun h _=>?_) (fun h _=>?_)
 . have h0:y7d L=[]:=by have:(y7d L).length=0:=(by omega);simpa using this
   refine hg ?_;rw [h0];exact .one (.agg (.cons (.refl _) (.cons (.v3s _) .nil)))
 . have h0:y7d L≠[]:=fun e=>h (by rw [e];rfl)
   refine hg ?_
   try rw [if_neg h0]
   exact .one (.refl _)
theorem wiq (s z:Int) (hz:(dig z.natAbs).length<=1073741824) (h:(s=1/\0<=z)\/(s = -1/\z<=0)\/z=0) :
 CallsD Γ prog 142 [.one (.raw (.int .i64 s)),.one (.ints .i64 (dig z.natAbs))] (.agg [.raw (.int .i64 (sg z)),.ints .i64 (dig z.natAbs)]):=by
 have h':=xvm (Γ:=Γ) s (dig z.natAbs) (by omega)
 try unfold bigC at h'
 rw [xgc h] at h';exact h'
theorem xf2 (l:List Int) (i:Nat):num l=num (l.take i)+1048576 ^ i*num (l.drop i):=by
 rcases Nat.lt_or_ge l.length i with h | h
 . rw [List.drop_eq_nil_of_le (by omega),yln (by omega)];simp [num]
 . have:=vtm l i
   rwa [List.length_take,Nat.min_eq_left h] at this
theorem zv4 {l:List Int} (h:digits l) (i:Nat):num (l.take i)<1048576 ^ i:=
 Int.lt_of_lt_of_le (wg0 (h.take i)) (yyb (by simp;omega))
theorem x1j {a b:List Int} (ha:digits a) (hb:digits b) (i:Nat) (h:num (a.drop (i+1))=num (b.drop (i+1))) (hlt:a.getD i 0<b.getD i 0):num a<num b:=by
 rw [xf2 a i,xf2 b i,z4x a,z4x b,h];have h1:=zv4 ha i;have h2:=num_nonneg (hb.take i);have hp:=yxq i;generalize (1048576:Int) ^ i=P at *;generalize num (b.drop (i+1))=T;have h3:P*(a.getD i 0+1)<=P*b.getD i 0:=Int.mul_le_mul_of_nonneg_left (by omega) (by omega);rw [Int.mul_add,Int.mul_add];rw [Int.mul_add] at h3;omega
theorem xb7 (a b:List Int) (ha:digits a) (hb:digits b) (la:a.length<=1099511627776) (lb:b.length<=1099511627776) :
 CallsD Γ prog 195 [.one (.ints .i64 a),.one (.ints .i64 b)] (.one (.raw (.bool (decide (num a<num b))))):=by
 refine hE [] func195 f195.eq_1 ?_;refine wf5 [0,1,4] (fun n:Nat=>[(5,.one (.dat (cI (((n:Int)-1)))))]) (fun _=>[])
  (fun n=>n<=max a.length b.length/\num (a.drop n)=num (b.drop n)) (fun n=>n) (max a.length b.length)
  ⟨Nat.le_refl _,by rw [List.drop_eq_nil_of_le (by omega),List.drop_eq_nil_of_le (by omega)]⟩ ?_ ?_
 . refine hg ?_;rw [show (max (a.length:Int) b.length)=((max a.length b.length:Nat):Int) by omega];exact sS
 rintro n ⟨hn,he⟩;refine hg ?_;refine y8g (fun h _=>?_) (fun h _=>?_)
 . obtain ⟨i,rfl⟩:∃ i,n=i+1:=⟨n-1,by omega⟩
   have ei:((i+1:Nat):Int)-1=(i:Nat):=by omega
   refine hg1 @ei ?_
   first | refine wdy (ygf a i la (by omega)) ?_ | refine y04 (ygf a i la (by omega)) ?_
   refine hg1 @ei ?_
   first | refine wdy (ygf b i lb (by omega)) ?_ | refine y04 (ygf b i lb (by omega)) ?_
   refine hg1 @ei ?_;refine y8g (fun h2 _=>?_) (fun h2 _=>?_)
   . have h2:a.getD i 0≠b.getD i 0:=h2;refine hg1 @ei ?_
     first | refine wdy (ygf a i la (by omega)) ?_ | refine y04 (ygf a i la (by omega)) ?_
     refine hg1 @ei ?_
     first | refine wdy (ygf b i lb (by omega)) ?_ | refine y04 (ygf b i lb (by omega)) ?_
     refine hg1 @ei ?_
     have:decide (a.getD i 0<b.getD i 0)=decide (num a<num b):=by
      apply decide_eq_decide.2
      rcases Int.lt_or_gt_of_ne h2 with h3 | h3
      . have:=x1j ha hb i he h3
        exact ⟨fun _=>this,fun _=>h3⟩
      . have:=x1j hb ha i he.symm h3
        exact ⟨fun _=>by omega,fun _=>by omega⟩
     rw [this];exact .one (.refl _)
   . have h2:a.getD i 0=b.getD i 0:=by omega
     refine hg1 @ei ?_;exact ⟨i,⟨by omega,by rw [z4x a,z4x b,he,h2]⟩,by omega,sS⟩
 . have h0:n=0:=by omega
   subst h0
   have he:num a=num b:=by simpa using he
   refine hg ?_;exact (by rw [decide_eq_false (by omega)];exact .one (.refl _))
theorem vho (l:List Int) (x:Int):num (l++[x])=num l+1048576 ^ l.length*x:=by rw [yhq];simp [num]
theorem x8i (a b:List Int) (ha:digits a) (hb:digits b) (la:a.length<=1073741824) (lb:b.length<=1073741824) :
 CallsD Γ prog 168 [.one (.ints .i64 a),.one (.ints .i64 b)] (.one (.ints .i64 (dig (num a+num b).toNat))):=by
 refine hE [(6,[.join])] func168 f168.eq_1 ?_;refine wf5 [0,1,4] (fun x:Nat×List Int×Int=>[(5,.one (.sl 0 1 0 x.2.1.length)),(6,.one (.dat (cI (x.2.2)))),(7,.one (.dat (cI (x.1))))]) (fun x=>[.arr (.ints .i64 x.2.1) 0 (some 3)])
  (fun x=>x.1<=max a.length b.length+1/\x.2.1.length=x.1/\digits x.2.1/\(0<=x.2.2/\x.2.2<=1)/\(max a.length b.length<x.1->x.2.2=0)/\num x.2.1+1048576 ^ x.1*x.2.2=num (a.take x.1)+num (b.take x.1))
  (fun x=>max a.length b.length+1-x.1) (0,[],0)
  ⟨Nat.zero_le _,rfl,digits.nil,by simp,by simp,by simp [num]⟩ ?_ ?_
 . refine hg ?_;refine StH.trans (StH.empty (d:=5) (es:=1) (c:=.ints .i64 []) (T:=some 3) rfl rfl trivial rfl) ?_;refine hg ?_;exact sS
 rintro ⟨k,l,c⟩ ⟨hk,hl,hd,hc,hc0,hn⟩;simp only at hk hl hd hc hc0 hn;refine hg ?_;refine y7q [0,1,4,5,6,7] (fun _:Unit=>[]) (fun _=>[.arr (.ints .i64 l) 0 (some 3)]) (fun _=>k<a.length\/k<b.length\/0<c) ?_ ?_
 . refine hg ?_;refine xaf (fun h1 _=>?_) (fun h1 _=>?_)
   . refine hg1 @h1 ?_;refine xaf (fun h2 _=>?_) (fun h2 _=>?_)
     . refine hg1 @h2 ?_;refine y8g (fun h3 _=>?_) (fun h3 _=>?_)
       . refine hg ?_;exact ⟨(),.inr (.inr h3),sS⟩
       . have hc1:c=0:=by omega
         rw [yln (by omega),yln (by omega),hc1,Int.mul_zero,Int.add_zero] at hn;refine hg ?_
         first | refine wdy (x4l l (by omega)) ?_ | refine y04 (x4l l (by omega)) ?_
         refine hg ?_;exact (by rw [xrd hd hn];exact .one (.refl _))
     . have h2':=decide_eq_true h2;refine hg1 @h2' ?_;exact ⟨(),.inr (.inl (by omega)),sS⟩
   . have h1':=decide_eq_true h1;refine hg1 @h1' ?_;exact ⟨(),.inl (by omega),sS⟩
 rintro _ hgo;have hak:=ha.getD k;have hbk:=hb.getD k
 have hkm:k<=max a.length b.length:=by
  rcases Nat.lt_or_ge (max a.length b.length) k with h | h
  . have:=hc0 h;omega
  . exact h
 refine hg ?_
 first | refine wdy (ygf a k (by omega) (by omega)) ?_ | refine y04 (ygf a k (by omega) (by omega)) ?_
 refine hg ?_
 first | refine wdy (ygf b k (by omega) (by omega)) ?_ | refine y04 (ygf b k (by omega) (by omega)) ?_
 refine hg ?_;generalize hs:a.getD k 0+b.getD k 0+c=s at *;have hm:s.tmod 1048576=s % 1048576:=Int.tmod_eq_emod_of_nonneg (by omega);have hq:s.tdiv 1048576=s / 1048576:=Int.tdiv_eq_ediv_of_nonneg (by omega);refine hg2 @hm @hq ?_;refine ⟨(k+1,l++[s % 1048576],s / 1048576),⟨by dsimp only;omega,by simp [hl],hd.append (digits.cons (by omega) digits.nil),by dsimp only;omega,fun h=>?_,?_⟩,by dsimp only;omega,StH.back [0,1,4,5,6,7] 0 1 1 rfl rfl rfl rfl rfl (by kernel_rfl) (sS)⟩
 . dsimp only at h ⊢;have e1:=zg7 (l:=a) (i:=k) (by omega);have e2:=zg7 (l:=b) (i:=k) (by omega);omega
 . dsimp only;rw [vho,hl,zb2,zb2,Int.pow_succ];have h:=Int.emod_add_mul_ediv s 1048576;generalize (1048576:Int) ^ k=P at *;generalize s % 1048576=r at *;generalize s / 1048576=q at *
   grind
theorem vxc (x y:Nat) (hxy:y<=x) (la:(dig x).length<=1073741824) :
 CallsD Γ prog 169 [.one (.ints .i64 (dig x)),.one (.ints .i64 (dig y))] (.one (.ints .i64 (dig (x-y)))):=by
 have hlb:(dig y).length<=(dig x).length:=z6g hxy;have hnx:=wag x;have hny:=wag y;have ha:=v8d x;have hb:=v8d y
 have hfin:(num (dig x)-num (dig y)).toNat=x-y:=by omega
 rw [<-hfin]
 have hle:num (dig y)<=num (dig x):=by omega
 clear hfin hnx hny hxy;generalize dig x=a at *;generalize dig y=b at *;refine hE [(11,[.join])] func169 f169.eq_1 ?_;refine wf5 [0,1,4] (fun x:Nat×List Int×Int=>[(5,.one (.sl 0 1 0 x.2.1.length)),(6,.one (.dat (cI (x.2.2)))),(7,.one (.dat (cI (x.1))))]) (fun x=>[.arr (.ints .i64 x.2.1) 0 (some 3)])
  (fun x=>x.1<=a.length/\x.2.1.length=x.1/\digits x.2.1/\(0<=x.2.2/\x.2.2<=1)/\num x.2.1-1048576 ^ x.1*x.2.2=num (a.take x.1)-num (b.take x.1))
  (fun x=>a.length-x.1) (0,[],0)
  ⟨Nat.zero_le _,rfl,digits.nil,by simp,by simp [num]⟩ ?_ ?_
 . refine hg ?_;refine StH.trans (StH.empty (d:=5) (es:=1) (c:=.ints .i64 []) (T:=some 3) rfl rfl trivial rfl) ?_;refine hg ?_;exact sS
 rintro ⟨k,l,c⟩ ⟨hk,hl,hd,hc,hn⟩;simp only at hk hl hd hc hn;refine hg ?_;refine y8g (fun h _=>?_) (fun h _=>?_)
 . have hak:=ha.getD k;have hbk:=hb.getD k;refine hg ?_
   first | refine wdy (ygf b k (by omega) (by omega)) ?_ | refine y04 (ygf b k (by omega) (by omega)) ?_
   refine hg ?_;refine hik ?_;refine hg ?_;generalize hs:a.getD k 0-b.getD k 0-c=s at *;refine y7q [0,1,4,5,7] (fun _:Unit=>[(6,.one (.dat (cI ((if s<0 then 1 else 0))))),(8,.one (.dat (cI ((if s<0 then s+1048576 else s)))))]) (fun _=>[.arr (.ints .i64 l) 0 (some 3)]) (fun _=>True) ?_ ?_
   . refine hg ?_;refine y8g (fun h1 _=>?_) (fun h1 _=>?_)
     . refine hg ?_;exact ⟨(),sS⟩
     . refine hg ?_;exact ⟨(),sS⟩
   rintro _ _;generalize hr:(if s<0 then s+1048576 else s)=r;generalize hq:(if s<0 then (1:Int) else 0)=q
   have hrq:s=r-1048576*q/\0<=r/\r<=1048575/\0<=q/\q<=1:=by
    subst hr hq
    split<;>omega
   clear hr hq;refine hg ?_;refine ⟨(k+1,l++[r],q),⟨by dsimp only;omega,by simp [hl],hd.append (digits.cons (by omega) digits.nil),by dsimp only;omega,?_⟩,by dsimp only;omega,StH.back [0,1,4,5,6,7] 0 1 1 rfl rfl rfl rfl rfl (by kernel_rfl) (sS)⟩;dsimp only;rw [vho,hl,zb2,zb2,Int.pow_succ];have h:=hrq.1;generalize (1048576:Int) ^ k=P at *
   grind
 . have hka:k=a.length:=by omega
   rw [hka,yln (Nat.le_refl _),yln hlb] at hn;have hd0:=wg0 hd;rw [hl,hka] at hd0
   have hc0:c=0:=by
    have:=yxq a.length
    rcases (show c=0\/c=1 by omega) with e | e
    . exact e
    . rw [e] at hn;omega
   rw [hc0,Int.mul_zero,Int.sub_zero] at hn;refine hg ?_
   first | refine wdy (x4l l (by omega)) ?_ | refine y04 (x4l l (by omega)) ?_
   refine hg ?_;exact (by rw [xrd hd hn];exact .one (.refl _))
end Go.Hp.T
