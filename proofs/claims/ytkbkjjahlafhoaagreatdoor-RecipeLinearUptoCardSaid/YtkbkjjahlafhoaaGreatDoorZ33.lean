/- The proof, part Z33: 3n, 3l, 3o, Ya, Yb. -/
import Derived.Test.YtkbkjjahlafhoaaGreatDoorZ32
import Derived.Test.YtkbkjjahlafhoaaGreatDoorZ26
import Derived.Test.YtkbkjjahlafhoaaGreatDoorZ30
import Derived.Test.YtkbkjjahlafhoaaGreatDoorZ15
import Derived.Test.YtkbkjjahlafhoaaGreatDoorZ19
namespace Go.Hp.T
open Go Go.RowKit Go.Slot Go.Hp Go.Slot.T
set_option maxRecDepth 10000
def xye:ByteArray:=⟨#[115,104,101,101,116,32,109,32,123,32,105,109,112,111,114,116,32,102,108,111,117,114,32,34,107,103,34,32,53,32,61,32,51,32,58,32,111,117,116,32,58,32,49,32,59,32,105,110,112,117,116,32,103,97,115,32,34,107,103,34,32,99,111,50,32,59,32,99,101,108,108,32,119,32,34,34,32,61,32,51,32,59,32,99,101,108,108,32,118,32,34,34,32,61,32,49,32,59,32,112,111,114,116,32,98,114,101,97,100,32,34,107,103,34,32,57,32,59,32,115,116,111,114,101,32,115,105,108,111,32,34,107,103,34,32,102,105,114,115,116,32,59,32,114,101,99,105,112,101,32,99,111,50,32,123,32,109,101,116,101,114,32,112,32,61,32,103,97,115,32,59,32,116,97,107,101,32,113,32,61,32,102,108,111,117,114,32,59,32,115,112,108,105,116,32,112,32,105,110,116,111,32,97,32,58,32,119,32,44,32,98,32,58,32,118,32,59,32,106,111,105,110,32,97,32,44,32,113,32,105,110,116,111,32,114,32,59,32,103,105,118,101,32,114,32,116,111,32,98,114,101,97,100,32,59,32]⟩
def zig:ByteArray:=⟨#[32,125,32,125]⟩
def exT (t:ByteArray):ByteArray:=xye++t++zig
def exL:ByteArray:=⟨#[108,111,115,101,32,98,32,97,115,32,104,101,97,116,32,59]⟩
def exS5:List Stp:=[⟨0,[],[⟨#[112]⟩],⟨#[103,97,115]⟩,[],0⟩,⟨1,[],[⟨#[113]⟩],⟨#[102,108,111,117,114]⟩,[],0⟩,⟨3,[⟨#[112]⟩],[⟨#[97]⟩,⟨#[98]⟩],⟨#[]⟩,[⟨#[119]⟩,⟨#[118]⟩],0⟩,⟨4,[⟨#[97]⟩,⟨#[113]⟩],[⟨#[114]⟩],⟨#[]⟩,[],0⟩,⟨5,[⟨#[114]⟩],[],⟨#[98,114,101,97,100]⟩,[],0⟩]
def exS6:List Stp:=exS5++[⟨7,[⟨#[98]⟩],[],⟨#[104,101,97,116]⟩,[],0⟩]
def exSh (l:List Stp):Sht:=⟨⟨#[109]⟩,[⟨⟨#[102,108,111,117,114]⟩,⟨#[107,103]⟩,5,3,⟨#[111,117,116]⟩,1⟩],[⟨⟨#[103,97,115]⟩,⟨#[107,103]⟩,⟨#[99,111,50]⟩⟩],[],[],[⟨⟨#[119]⟩,⟨#[]⟩,.mk 0 3 ⟨#[]⟩ ⟨#[]⟩ []⟩,⟨⟨#[118]⟩,⟨#[]⟩,.mk 0 1 ⟨#[]⟩ ⟨#[]⟩ []⟩],[⟨⟨#[98,114,101,97,100]⟩,⟨#[107,103]⟩,9⟩],[⟨⟨#[115,105,108,111]⟩,⟨#[107,103]⟩,0⟩],[⟨⟨#[99,111,50]⟩,l⟩]⟩
def exTk (t:ByteArray):List Tk:=match zbb (exT t) with
 | .inl L=>L
 | .inr _=>[]
theorem y2a:zbb (exT exL)=.inl (exTk exL):=by kernel_rfl
theorem wqd:zbb (exT ⟨#[]⟩)=.inl (exTk ⟨#[]⟩):=by kernel_rfl
theorem y87:yui (exT exL) (exSh exS6):=⟨exTk exL,y2a,by kernel_rfl,by kernel_rfl⟩
theorem zjy:yui (exT ⟨#[]⟩) (exSh exS5):=⟨exTk ⟨#[]⟩,wqd,by kernel_rfl,by kernel_rfl⟩
theorem vz6:(exSh exS6).Sm:=xix (by kernel_rfl)
theorem wa3:(exSh exS5).Sm:=xix (by kernel_rfl)
theorem wtd:wp4 (exSh exS6)=true:=by kernel_rfl
theorem wvs:wp4 (exSh exS5)=true:=by kernel_rfl
theorem ydt:whd (exSh exS6) 0=(0,0,[]):=by kernel_rfl
theorem x9j:(whd (exSh exS5) 0).1=21/\(whd (exSh exS5) 0).2.1=5:=⟨by kernel_rfl,by kernel_rfl⟩
def xnP:ByteArray:=⟨#[112]⟩
def xnQ:ByteArray:=⟨#[113]⟩
def xnA:ByteArray:=⟨#[97]⟩
def xnB:ByteArray:=⟨#[98]⟩
def xnR:ByteArray:=⟨#[114]⟩
def xnW:ByteArray:=⟨#[119]⟩
def xnV:ByteArray:=⟨#[118]⟩
def SzB (B:Nat) (m:Mf):Prop:=∀ p l,yvz m p=some l->l.length<=1000/\∀ x∈l,x.sz<=B
theorem SzB.m {B:Nat} {m:Mf} (h:SzB B m) (hB:B<=100000):SzM m:=⟨fun p l hl=>(h p l hl).1,fun p l hl x hx=>Nat.le_trans ((h p l hl).2 x hx) hB⟩
theorem SzB.upd {B:Nat} {m:Mf} (h:SzB B m) {q:ByteArray} {r:List Fc} (hl:r.length<=1000) (hx:∀ x∈r,x.sz<=B):SzB B (updF m q r):=fun p l hp=>by
 rcases vu3 hp with rfl | hp
 . exact ⟨hl,hx⟩
 . exact h p l hp
theorem SzB.app {B:Nat} {m m':Mf} (h:SzB B m) {q:ByteArray} {r:List Fc} (hl:r.length<=1000) (hx:∀ x∈r,x.sz<=B) (e:updF m q r=m'):SzB B m':=e▸h.upd hl hx
theorem wbw (x y:Fc):(divF x y).sz<=x.sz+y.sz+1:=by
 unfold divF
 split
 . rename_i h;have hx:=Fc.v7b h.1;have hy:=Fc.v7b h.2.1
   have:=x20 x.val y.val
   unfold qs at this;rw [<-hx,<-hy] at this;exact this
 . rw [Fc.wu7];omega
section
variable {a b c d wa wb:Fc}
abbrev exC2 (a b c d:Fc):List Sc:=[⟨a,b⟩,⟨c,d⟩]
abbrev exW (a b c d:Fc) (n:Nat):Wk:=vp4 (exSh exS6) (exC2 a b c d) exS6 nilW n
theorem zyc (l:List Stp):idxC (exSh l) xnW=0/\idxC (exSh l) xnV=1:=⟨by kernel_rfl,by kernel_rfl⟩
theorem vhh (l:List Stp):valF (exSh l) (exC2 a b c d) xnW=⟨a,b⟩/\valF (exSh l) (exC2 a b c d) xnV=⟨c,d⟩:=by
 unfold valF;rw [(zyc l).1,(zyc l).2];exact ⟨rfl,rfl⟩
abbrev exX:Stp:=⟨3,[xnP],[xnA,xnB],⟨#[]⟩,[xnW,xnV],0⟩
theorem zvj (l:List Stp):sumV (exSh l) (exC2 a b c d) [xnW,xnV]=Fc.add (Fc.add (Fc.of 0) a) c:=by
 unfold sumV;rw [List.foldl_cons,List.foldl_cons,List.foldl_nil,(vhh l).1,(vhh l).2]
theorem ydo (l:List Stp):wtL (exSh l) (exC2 a b c d) [xnW,xnV]=[divF a (Fc.add (Fc.add (Fc.of 0) a) c),divF c (Fc.add (Fc.add (Fc.of 0) a) c)]:=by
 unfold wtL;rw [zvj,List.map_cons,List.map_cons,List.map_nil,(vhh l).1,(vhh l).2]
theorem xmx:exW a b c d 1=⟨[(xnP,[Fc.of 1])],[⟨0,0,0⟩],[],[]⟩:=by kernel_rfl
theorem zvr:exW a b c d 2=⟨[(xnP,[Fc.of 1]),(xnQ,[Fc.of 0,Fc.of 1])],[⟨0,0,0⟩,⟨1,0,0⟩],[],[]⟩:=by kernel_rfl
def exR (w:Fc):List Fc:=[Fc.mul (Fc.add (Fc.of 0) (Fc.of 1)) w,Fc.mul (Fc.add (Fc.of 0) (Fc.of 0)) w]
def exJ (w:Fc):List Fc:=[Fc.mul (Fc.add (Fc.add (Fc.of 0) (Fc.mul (Fc.add (Fc.of 0) (Fc.of 1)) w)) (Fc.of 0)) (Fc.of 1),Fc.mul (Fc.add (Fc.add (Fc.of 0) (Fc.mul (Fc.add (Fc.of 0) (Fc.of 0)) w)) (Fc.of 1)) (Fc.of 1)]
theorem yli {s:Sht} {cs:List Sc} {w:Wk} {x:Stp} (hk:x.kind=3) {wt:List Fc} (h:wtF s cs x.cells=wt):yea s cs w x=setM w (zo3 w.srcs.length x.inn wt x.out w.m x.out.length):=by
 unfold yea;rw [hk,h];rfl
theorem v21 (h:wtE (exSh exS6) (exC2 a b c d) [xnW,xnV]=0) (ha:divF a (Fc.add (Fc.add (Fc.of 0) a) c)=wa) (hb:divF c (Fc.add (Fc.add (Fc.of 0) a) c)=wb):exW a b c d 3=⟨[(xnP,[Fc.of 1]),(xnQ,[Fc.of 0,Fc.of 1]),(xnA,exR wa),(xnB,exR wb)],[⟨0,0,0⟩,⟨1,0,0⟩],[],[]⟩:=by
 have e:wtF (exSh exS6) (exC2 a b c d) exX.cells=[wa,wb]:=by
  show wtF (exSh exS6) (exC2 a b c d) [xnW,xnV]=_;unfold wtF;rw [h,ydo,ha,hb];rfl
 show yea (exSh exS6) (exC2 a b c d) (exW a b c d 2) exX=_;rw [yli rfl e,zvr];kernel_rfl
theorem zmd (h3:exW a b c d 3=⟨[(xnP,[Fc.of 1]),(xnQ,[Fc.of 0,Fc.of 1]),(xnA,exR wa),(xnB,exR wb)],[⟨0,0,0⟩,⟨1,0,0⟩],[],[]⟩):exW a b c d 4=⟨[(xnP,[Fc.of 1]),(xnQ,[Fc.of 0,Fc.of 1]),(xnA,exR wa),(xnB,exR wb),(xnR,exJ wa)],[⟨0,0,0⟩,⟨1,0,0⟩],[],[]⟩:=by
 show yea (exSh exS6) (exC2 a b c d) (exW a b c d 3) (exS6.getD 3 default)=_;rw [h3];kernel_rfl
theorem yoa (h4:exW a b c d 4=⟨[(xnP,[Fc.of 1]),(xnQ,[Fc.of 0,Fc.of 1]),(xnA,exR wa),(xnB,exR wb),(xnR,exJ wa)],[⟨0,0,0⟩,⟨1,0,0⟩],[],[]⟩):exW a b c d 5=⟨[(xnP,[Fc.of 1]),(xnQ,[Fc.of 0,Fc.of 1]),(xnA,exR wa),(xnB,exR wb),(xnR,exJ wa)],[⟨0,0,0⟩,⟨1,0,0⟩],[⟨0,0,0,⟨#[]⟩⟩],[exJ wa]⟩:=by
 show yea (exSh exS6) (exC2 a b c d) (exW a b c d 4) (exS6.getD 4 default)=_;rw [h4];kernel_rfl
theorem vh5 (h5:exW a b c d 5=⟨[(xnP,[Fc.of 1]),(xnQ,[Fc.of 0,Fc.of 1]),(xnA,exR wa),(xnB,exR wb),(xnR,exJ wa)],[⟨0,0,0⟩,⟨1,0,0⟩],[⟨0,0,0,⟨#[]⟩⟩],[exJ wa]⟩):exW a b c d 6=⟨[(xnP,[Fc.of 1]),(xnQ,[Fc.of 0,Fc.of 1]),(xnA,exR wa),(xnB,exR wb),(xnR,exJ wa)],[⟨0,0,0⟩,⟨1,0,0⟩],[⟨0,0,0,⟨#[]⟩⟩,⟨2,0,0,⟨#[104,101,97,116]⟩⟩],[exJ wa,exR wb]⟩:=by
 show yea (exSh exS6) (exC2 a b c d) (exW a b c d 5) (exS6.getD 5 default)=_;rw [h5];kernel_rfl
theorem wf5 (hw1:wa.sz<=100) (hw2:wb.sz<=100) {m:Mf} (hm:m=[(xnP,[Fc.of 1]),(xnQ,[Fc.of 0,Fc.of 1])]\/m=[(xnP,[Fc.of 1]),(xnQ,[Fc.of 0,Fc.of 1]),(xnA,exR wa)]\/m=[(xnP,[Fc.of 1]),(xnQ,[Fc.of 0,Fc.of 1]),(xnA,exR wa),(xnB,exR wb)]\/m=[(xnP,[Fc.of 1]),(xnQ,[Fc.of 0,Fc.of 1]),(xnA,exR wa),(xnB,exR wb),(xnR,exJ wa)]):SzM m:=by
 have z0:=y2e;have z1:=y1h;have a1:=Fc.vdr (Fc.of 0) (Fc.of 1);have a0:=Fc.vdr (Fc.of 0) (Fc.of 0)
 have hR:∀ w:Fc,w.sz<=100->(exR w).length<=1000/\∀ x∈exR w,x.sz<=1000:=fun w hw=>by
  refine ⟨by show 2<=1000;decide,fun x hx=>?_⟩;have b1:=Fc.yfv (Fc.add (Fc.of 0) (Fc.of 1)) w;have b0:=Fc.yfv (Fc.add (Fc.of 0) (Fc.of 0)) w;unfold exR at hx
  rcases List.mem_cons.1 hx with rfl | hx
  . omega
  . rw [List.mem_singleton.1 hx];omega
 have hJ:(exJ wa).length<=1000/\∀ x∈exJ wa,x.sz<=1000:=by
  refine ⟨by show 2<=1000;decide,fun x hx=>?_⟩;have b1:=Fc.yfv (Fc.add (Fc.of 0) (Fc.of 1)) wa;have b0:=Fc.yfv (Fc.add (Fc.of 0) (Fc.of 0)) wa;unfold exJ at hx
  rcases List.mem_cons.1 hx with rfl | hx
  . have c1:=Fc.vdr (Fc.of 0) (Fc.mul (Fc.add (Fc.of 0) (Fc.of 1)) wa);have c2:=Fc.vdr (Fc.add (Fc.of 0) (Fc.mul (Fc.add (Fc.of 0) (Fc.of 1)) wa)) (Fc.of 0);have c3:=Fc.yfv (Fc.add (Fc.add (Fc.of 0) (Fc.mul (Fc.add (Fc.of 0) (Fc.of 1)) wa)) (Fc.of 0)) (Fc.of 1);omega
  . rw [List.mem_singleton.1 hx];have c1:=Fc.vdr (Fc.of 0) (Fc.mul (Fc.add (Fc.of 0) (Fc.of 0)) wa);have c2:=Fc.vdr (Fc.add (Fc.of 0) (Fc.mul (Fc.add (Fc.of 0) (Fc.of 0)) wa)) (Fc.of 1);have c3:=Fc.yfv (Fc.add (Fc.add (Fc.of 0) (Fc.mul (Fc.add (Fc.of 0) (Fc.of 0)) wa)) (Fc.of 1)) (Fc.of 1);omega
 have hN:SzB 1000 []:=fun p l h=>by cases h
 have hP:SzB 1000 [(xnP,[Fc.of 1])]:=hN.app (q:=xnP) (r:=[Fc.of 1]) (by decide) (fun x hx=>by rw [List.mem_singleton.1 hx];omega) rfl
 have hQ:SzB 1000 [(xnP,[Fc.of 1]),(xnQ,[Fc.of 0,Fc.of 1])]:=hP.app (q:=xnQ) (r:=[Fc.of 0,Fc.of 1]) (by decide) (fun x hx=>by
  rcases List.mem_cons.1 hx with rfl | hx
  . omega
  . rw [List.mem_singleton.1 hx];omega) (by kernel_rfl)
 have hA:SzB 1000 [(xnP,[Fc.of 1]),(xnQ,[Fc.of 0,Fc.of 1]),(xnA,exR wa)]:=hQ.app (q:=xnA) (r:=exR wa) (hR wa hw1).1 (hR wa hw1).2 (by kernel_rfl);have hB:SzB 1000 [(xnP,[Fc.of 1]),(xnQ,[Fc.of 0,Fc.of 1]),(xnA,exR wa),(xnB,exR wb)]:=hA.app (q:=xnB) (r:=exR wb) (hR wb hw2).1 (hR wb hw2).2 (by kernel_rfl);have hC:SzB 1000 [(xnP,[Fc.of 1]),(xnQ,[Fc.of 0,Fc.of 1]),(xnA,exR wa),(xnB,exR wb),(xnR,exJ wa)]:=hB.app (q:=xnR) (r:=exJ wa) hJ.1 hJ.2 (by kernel_rfl)
 rcases hm with rfl | rfl | rfl | rfl
 . exact hQ.m (by decide)
 . exact hA.m (by decide)
 . exact hB.m (by decide)
 . exact hC.m (by decide)
theorem ymh {w:Wk} {x:Stp} (hm:SzM w.m) (hs:Nat.ble w.srcs.length 2=true) (ho:Nat.ble w.outs.length 2=true) (hh:Nat.ble w.shares.length 2=true) (il:x.inn.length<=2) (ol:x.out.length<=2) (s1:x.kind<=2->0<x.out.length) (s2:x.kind=3->WtOk (exSh exS6) (exC2 a b c d) x.cells/\(wtE (exSh exS6) (exC2 a b c d) x.cells=0->x.out.length<=x.cells.length/\∀ k,k<=x.out.length->SzM (zo3 w.srcs.length x.inn (wtL (exSh exS6) (exC2 a b c d) x.cells) x.out w.m k))/\∀ y∈wtL (exSh exS6) (exC2 a b c d) x.cells,y.sz<=100000)
 (s3:x.kind=4->0<x.out.length) (s4:5<=x.kind->0<x.inn.length/\∃ l,yvz w.m (x.inn.getD 0 default)=some l):xtr (exSh exS6) (exC2 a b c d) w x:=
 ⟨hm,by have:=Nat.le_of_ble_eq_true hs;omega,by have:=Nat.le_of_ble_eq_true ho;omega,by have:=Nat.le_of_ble_eq_true hh;omega,by omega,by omega,by decide,by decide,by decide,by decide,by decide,s1,s2,s3,s4⟩
theorem vcf (ha:a.ok) (hc:c.ok) (la:a.sz<=5) (lb:b.sz<=5) (lc:c.sz<=5) (ld:d.sz<=5):xgs (exSh exS6) (exC2 a b c d) exS6:=by
 have z0:=y2e;have t1:=Fc.vdr (Fc.of 0) a;have t2:=Fc.vdr (Fc.add (Fc.of 0) a) c;obtain ⟨wa,hwa⟩:∃ wa,divF a (Fc.add (Fc.add (Fc.of 0) a) c)=wa:=⟨_,rfl⟩;obtain ⟨wb,hwb⟩:∃ wb,divF c (Fc.add (Fc.add (Fc.of 0) a) c)=wb:=⟨_,rfl⟩
 have l1:wa.sz<=100:=by have:=wbw a (Fc.add (Fc.add (Fc.of 0) a) c);rw [hwa] at this;omega
 have l2:wb.sz<=100:=by have:=wbw c (Fc.add (Fc.add (Fc.of 0) a) c);rw [hwb] at this;omega
 have hwt:wtL (exSh exS6) (exC2 a b c d) [xnW,xnV]=[wa,wb]:=by rw [ydo,hwa,hwb]
 have hm:=fun m=>wf5 (wa:=wa) (wb:=wb) l1 l2 (m:=m)
 have hP:SzM [(xnP,[Fc.of 1])]:=by
  have:SzB 1 [(xnP,[Fc.of 1])]:=SzB.upd (m:=[]) (fun p l h=>by cases h) (by decide) (fun x hx=>by rw [List.mem_singleton.1 hx];exact y1h)
  exact this.m (by decide)
 have h3:=fun h=>v21 (a:=a) (b:=b) (c:=c) (d:=d) h hwa hwb
 have hlk:∀ n∈[xnW,xnV],(n=xnW\/n=xnV):=fun n hn=>by simpa using hn
 have hWt:WtOk (exSh exS6) (exC2 a b c d) [xnW,xnV]:=by
  refine ⟨by decide,fun n hn=>?_,fun n hn=>?_,fun n hn=>?_,fun n hn=>?_⟩<;>rcases hlk n hn with rfl | rfl
  . rw [(zyc _).1];exact ⟨by decide,by show 0<2;decide⟩
  . rw [(zyc _).2];exact ⟨by decide,by show 1<2;decide⟩
  . rw [(vhh _).1];exact ha
  . rw [(vhh _).2];exact hc
  . rw [(vhh _).1];dsimp only;omega
  . rw [(vhh _).2];dsimp only;omega
  . rw [(vhh _).1];dsimp only;omega
  . rw [(vhh _).2];dsimp only;omega
 have e3:∀ n,2<n->(∀ j,j<n->errW (exSh exS6) (exC2 a b c d) (exS6.getD j default)=0)->wtE (exSh exS6) (exC2 a b c d) [xnW,xnV]=0:=fun n hn h=>h 2 hn
 refine ⟨by decide,fun n hn=>?_,fun n hn hj=>?_,fun hj=>?_⟩
 . have hn:n<6:=hn
   rcases show n=0\/n=1\/n=2\/n=3\/n=4\/n=5 by omega with rfl | rfl | rfl | rfl | rfl | rfl<;>exact ⟨by decide,by decide⟩
 . have hn:n<6:=hn
   rcases show n=0\/n=1\/n=2\/n=3\/n=4\/n=5 by omega with rfl | rfl | rfl | rfl | rfl | rfl
   . exact ymh (w:=nilW) ⟨fun p l h=>(by cases h),fun p l h=>(by cases h)⟩ rfl rfl rfl (by decide) (by decide) (fun _=>by decide) (fun h=>absurd h (by decide)) (fun h=>absurd h (by decide)) (fun h=>absurd h (by decide))
   . rw [show vp4 (exSh exS6) (exC2 a b c d) exS6 nilW 1=_ from xmx];exact ymh hP rfl rfl rfl (by decide) (by decide) (fun _=>by decide) (fun h=>absurd h (by decide)) (fun h=>absurd h (by decide)) (fun h=>absurd h (by decide))
   . rw [show vp4 (exSh exS6) (exC2 a b c d) exS6 nilW 2=_ from zvr];refine ymh (hm _ (.inl rfl)) rfl rfl rfl (by decide) (by decide) (fun h=>absurd h (by decide)) (fun _=>⟨hWt,fun _=>⟨by decide,fun k hk=>?_⟩,fun y hy=>?_⟩) (fun h=>absurd h (by decide)) (fun h=>absurd h (by decide))
     . rw [show wtL (exSh exS6) (exC2 a b c d) (exS6.getD 2 default).cells=[wa,wb] from hwt];have hk:k<=2:=hk
       rcases show k=0\/k=1\/k=2 by omega with rfl | rfl | rfl
       . exact hm _ (.inl rfl)
       . exact hm _ (.inr (.inl (by kernel_rfl)))
       . exact hm _ (.inr (.inr (.inl (by kernel_rfl))))
     . rw [show wtL (exSh exS6) (exC2 a b c d) (exS6.getD 2 default).cells=[wa,wb] from hwt] at hy
       rcases List.mem_cons.1 hy with rfl | hy
       . omega
       . rw [List.mem_singleton.1 hy];omega
   . rw [show vp4 (exSh exS6) (exC2 a b c d) exS6 nilW 3=_ from h3 (e3 3 (by decide) hj)];exact ymh (hm _ (.inr (.inr (.inl rfl)))) rfl rfl rfl (by decide) (by decide) (fun h=>absurd h (by decide)) (fun h=>absurd h (by decide)) (fun _=>by decide) (fun h=>absurd h (by decide))
   . rw [show vp4 (exSh exS6) (exC2 a b c d) exS6 nilW 4=_ from zmd (h3 (e3 4 (by decide) hj))];exact ymh (hm _ (.inr (.inr (.inr rfl)))) rfl rfl rfl (by decide) (by decide) (fun h=>absurd h (by decide)) (fun h=>absurd h (by decide)) (fun h=>absurd h (by decide)) (fun _=>⟨by decide,exJ wa,by kernel_rfl⟩)
   . rw [show vp4 (exSh exS6) (exC2 a b c d) exS6 nilW 5=_ from yoa (zmd (h3 (e3 5 (by decide) hj)))];exact ymh (hm _ (.inr (.inr (.inr rfl)))) rfl rfl rfl (by decide) (by decide) (fun h=>absurd h (by decide)) (fun h=>absurd h (by decide)) (fun h=>absurd h (by decide)) (fun _=>⟨by decide,exR wb,by kernel_rfl⟩)
 . rw [show vp4 (exSh exS6) (exC2 a b c d) exS6 nilW exS6.length=_ from vh5 (yoa (zmd (h3 (e3 6 (by decide) hj))))];have hz:=hm _ (.inr (.inr (.inr rfl)));intro r hr
   rcases List.mem_cons.1 hr with rfl | hr
   . exact ⟨by show 0<2;decide,by show 2<=1000;decide,hz.sz xnR (exJ wa) (by kernel_rfl)⟩
   . rw [List.mem_singleton.1 hr];exact ⟨by show 0<2;decide,by show 2<=1000;decide,hz.sz xnB (exR wb) (by kernel_rfl)⟩
end
theorem wkq {i:Nat}:∀{sh:List (List Fc)} {s:Fc},colF i sh s=true->∀ l∈sh,(l.getD i Fc.zero).ok/\¬Fc.sign (l.getD i Fc.zero)<0
 | _::_,_,h,l',hl=>by
  unfold colF at h;simp only [Bool.and_eq_true,decide_eq_true_eq,Bool.not_eq_true',decide_eq_false_iff_not] at h
  rcases List.mem_cons.1 hl with rfl | hl
  . exact ⟨h.1,h.2.1⟩
  . exact wkq h.2.2 l' hl
theorem xsy {l:List (List Fc)} {r:List Fc} (h:r∈l):∃ k,k<l.length/\l.getD k default=r:=by
 obtain ⟨k,hk,e⟩:=List.getElem_of_mem h;exact ⟨k,hk,by rw [ldE hk,e]⟩
structure FlOk (f:Fl):Prop where
 len:f.shares.length=f.outs.length
 row:∀ l∈f.shares,l.length=f.srcs.length
 el:∀ l∈f.shares,∀ i,i<f.srcs.length->(l.getD i Fc.zero).ok/\¬Fc.sign (l.getD i Fc.zero)<0
theorem v19 {f:Fl} (h:x4e f=true):FlOk f:=by
 unfold x4e at h;simp only [Bool.and_eq_true,decide_eq_true_eq] at h;obtain ⟨⟨_,_,h3⟩,h4,h5⟩:=h;refine ⟨h3,fun l hl=>?_,fun l hl i hi=>?_⟩
 . obtain ⟨k,hk,rfl⟩:=xsy hl
   have:=zku h4 (i:=k) (by omega)
   unfold outR at this;simp only [Bool.and_eq_true,decide_eq_true_eq] at this;exact this.2.2.2
 . have:=zku h5 hi
   simp only [Bool.and_eq_true] at this;exact wkq this.2 l hl
theorem zls {x:Rat} (h:¬Fc.sign (Fc.of x)<0):0<=x:=by
 rw [Fc.yhj] at h;refine Rat.num_nonneg.1 ?_;by_cases hx:x.num<0
 . rw [x1t hx] at h;omega
 . omega
theorem vgk {x:Rat} (h:0<=x):¬Fc.sign (Fc.of x)<0:=by
 rw [Fc.yhj]
 have:=Rat.num_nonneg.2 h
 intro h'
 rcases vrj x.num with ⟨_,e⟩ | ⟨_,e⟩ | ⟨_,e⟩<;>omega
theorem zho {a b c l:List Fc}:∀ n,(∀ i,i<n->(l.getD i Fc.zero).ok/\¬Fc.sign (l.getD i Fc.zero)<0)->(∀ i,i<n->(a.getD i Fc.zero).ok)->(∀ i,i<n->(b.getD i Fc.zero).ok)->(∀ i,i<n->c.getD i Fc.zero=Fc.add (a.getD i Fc.zero) (b.getD i Fc.zero))->
 ∃ u v:Rat,dotN a l n=Fc.of u/\dotN b l n=Fc.of v/\dotN c l n=Fc.of (u+v)/\((∀ i,i<n->¬Fc.sign (a.getD i Fc.zero)<0)->0<=u)
 | 0,_,_,_,_=>⟨0,0,rfl,rfl,by rw [vl3,Rat.add_zero],fun _=>Rat.le_refl⟩
 | n+1,hl,ha,hb,hc=>by
  obtain ⟨u,v,h1,h2,h3,h4⟩:=zho (a:=a) (b:=b) (c:=c) (l:=l) n (fun i hi=>hl i (by omega)) (fun i hi=>ha i (by omega)) (fun i hi=>hb i (by omega)) (fun i hi=>hc i (by omega));obtain ⟨ok,nn⟩:=hl n (by omega);obtain ⟨q,eq⟩:=Fc.x7r ok;obtain ⟨x,ex⟩:=Fc.x7r (ha n (by omega));obtain ⟨y,ey⟩:=Fc.x7r (hb n (by omega));have ec:=hc n (by omega);rw [ex,ey,Fc.we9] at ec;rw [eq] at nn;refine ⟨u+q*x,v+q*y,?_,?_,?_,fun h=>?_⟩
  . rw [vid,h1,eq,ex,Fc.vsa,Fc.we9]
  . rw [vid,h2,eq,ey,Fc.vsa,Fc.we9]
  . rw [vid,h3,eq,ec,Fc.vsa,Fc.we9]
    congr 1
    rw [Rat.mul_add,Rat.add_assoc,Rat.add_assoc,Rat.add_left_comm v]
  . have hx:=h n (by omega);rw [ex] at hx;exact Rat.add_nonneg (h4 fun i hi=>h i (by omega)) (Rat.mul_nonneg (zls nn) (zls hx))
def sumL (a b:List Fc) (n:Nat):List Fc:=(List.range n).map fun i=>Fc.add (a.getD i Fc.zero) (b.getD i Fc.zero)
theorem xby {a b:List Fc} {n:Nat}:(sumL a b n).length=n:=by unfold sumL;rw [List.length_map,List.length_range]
theorem v3k {a b:List Fc} {n i:Nat} (h:i<n):(sumL a b n).getD i Fc.zero=Fc.add (a.getD i Fc.zero) (b.getD i Fc.zero):=by
 unfold sumL;rw [ldE (by rw [List.length_map,List.length_range];exact h),List.getElem_map,List.getElem_range]
theorem zaw {a b:List Fc} {n:Nat}:sumL a b (n+1)=sumL a b n++[Fc.add (a.getD n Fc.zero) (b.getD n Fc.zero)]:=by
 unfold sumL;rw [List.range_succ,List.map_append];rfl
theorem v29 {l:List Fc} {p:Fc->Prop} (h:∀ x∈l,p x) {i:Nat} (hi:i<l.length):p (l.getD i Fc.zero):=h _ (ldM hi)
structure x2d (f:Fl) (a b:List Fc):Prop where
 la:a.length=f.srcs.length
 lb:b.length=f.srcs.length
 lx:(runF f a).length=f.outs.length
 ly:(runF f b).length=f.outs.length
 ok:ypc f (sumL a b a.length)=true
 lz:(runF f (sumL a b a.length)).length=f.outs.length
 el:∀ i,i<f.outs.length->(runF f (sumL a b a.length)).getD i Fc.zero=Fc.add ((runF f a).getD i Fc.zero) ((runF f b).getD i Fc.zero)
 nn:(∀ i,i<a.length->¬Fc.sign (a.getD i Fc.zero)<0)->∀ i,i<f.outs.length->¬Fc.sign ((runF f a).getD i Fc.zero)<0
theorem wp3 {f:Fl} {a:List Fc} (h:ypc f a=true):x4e f=true/\a.length=f.srcs.length/\∀ x∈a,x.ok:=by
 unfold ypc at h;simp only [Bool.and_eq_true,decide_eq_true_eq,Bool.not_eq_true',List.any_eq_false,decide_eq_false_iff_not,Classical.not_not] at h;exact h
theorem z0f {f:Fl} {a:List Fc} (h1:x4e f=true) (h2:a.length=f.srcs.length) (h3:∀ x∈a,x.ok):ypc f a=true:=by
 unfold ypc;simp only [Bool.and_eq_true,decide_eq_true_eq,Bool.not_eq_true',List.any_eq_false,decide_eq_false_iff_not,Classical.not_not];exact ⟨h1,h2,h3⟩
theorem vnn {f:Fl} {a:List Fc} (h:ypc f a=true) (hf:FlOk f) {i:Nat} (hi:i<f.outs.length):(runF f a).getD i Fc.zero=dotN a (f.shares.getD i default) f.srcs.length:=by
 have hl:i<f.shares.length:=by rw [hf.len];exact hi
 unfold runF;rw [h,cond_true,ldE (by rw [List.length_map];exact hl),List.getElem_map,ldE hl,hf.row _ (List.getElem_mem _)]
theorem zps {f:Fl} {a:List Fc} (h:ypc f a=true) (hf:FlOk f):(runF f a).length=f.outs.length:=by
 unfold runF;rw [h,cond_true,List.length_map,hf.len]
theorem x5e {f:Fl} {a b:List Fc} (ha:ypc f a=true) (hb:ypc f b=true):x2d f a b:=by
 obtain ⟨h1,la,oa⟩:=wp3 ha;obtain ⟨_,lb,ob⟩:=wp3 hb;have hf:=v19 h1
 have hs:ypc f (sumL a b a.length)=true:=z0f h1 (by rw [xby,la]) (fun x hx=>by
  obtain ⟨k,hk,rfl⟩:=List.getElem_of_mem hx;rw [xby] at hk;have e:=v3k (a:=a) (b:=b) hk;rw [ldE (by rw [xby];exact hk)] at e;rw [e]
  exact Fc.zmr.2 ⟨v29 oa hk,v29 ob (by omega)⟩)
 have key:∀ i,i<f.outs.length->∃ u v:Rat,(runF f a).getD i Fc.zero=Fc.of u/\(runF f b).getD i Fc.zero=Fc.of v/\(runF f (sumL a b a.length)).getD i Fc.zero=Fc.of (u+v)/\((∀ i,i<a.length->¬Fc.sign (a.getD i Fc.zero)<0)->0<=u):=fun i hi=>by
  rw [vnn ha hf hi,vnn hb hf hi,vnn hs hf hi,la];have hm:f.shares.getD i default∈f.shares:=ldM (by rw [hf.len];exact hi);exact zho f.srcs.length (fun k hk=>hf.el _ hm k hk) (fun k hk=>v29 oa (by omega)) (fun k hk=>v29 ob (by omega)) (fun k hk=>v3k hk)
 refine ⟨la,lb,zps ha hf,zps hb hf,hs,zps hs hf,fun i hi=>?_,fun h i hi=>?_⟩
 . obtain ⟨u,v,e1,e2,e3,_⟩:=key i hi;rw [e1,e2,e3,Fc.we9]
 . obtain ⟨u,v,e1,_,_,e4⟩:=key i hi;rw [e1];exact vgk (e4 h)
theorem zib {x y:Rat} (h:x<=y):(⟨Fc.of x,Fc.of y⟩:Sc).ok:=by
 refine ⟨Fc.zf6 x,Fc.zf6 y,?_⟩;show Fc.cmp (Fc.of x) (Fc.of y)<=0;rw [Fc.xt1]
 rcases Fc.ym4 x y with ⟨_,e⟩ | ⟨_,e⟩ | ⟨h',_⟩
 . omega
 . omega
 . exact absurd h (Rat.not_le.2 h')
theorem xpl {x y u v:Rat} (h1:x<=y) (h2:u<=v):badA (exSh exS6) 0 (exC2 (Fc.of x) (Fc.of y) (Fc.of u) (Fc.of v))=false:=by
 unfold badA
 rw [wtd,show (exC2 (Fc.of x) (Fc.of y) (Fc.of u) (Fc.of v)).any (fun v=>!decide v.ok)=false by
  rw [List.any_cons,List.any_cons,List.any_nil,decide_eq_true (zib h1),decide_eq_true (zib h2)];rfl]
 rfl
theorem vkt {x y u v:Rat} (h1:x<=y) (h2:u<=v):badA (exSh exS5) 0 (exC2 (Fc.of x) (Fc.of y) (Fc.of u) (Fc.of v))=false:=by
 unfold badA
 rw [wvs,show (exC2 (Fc.of x) (Fc.of y) (Fc.of u) (Fc.of v)).any (fun v=>!decide v.ok)=false by
  rw [List.any_cons,List.any_cons,List.any_nil,decide_eq_true (zib h1),decide_eq_true (zib h2)];rfl]
 rfl
theorem wba {a b c d:Fc}:yvg (exSh exS6) (exC2 a b c d) exS6 0=bif decide (wtE (exSh exS6) (exC2 a b c d) [xnW,xnV]=0) then none else some (wtE (exSh exS6) (exC2 a b c d) [xnW,xnV],2):=by
 have e2:errW (exSh exS6) (exC2 a b c d) (exS6.getD 2 default)=wtE (exSh exS6) (exC2 a b c d) [xnW,xnV]:=rfl
 have e0:∀ j,j<6->j≠2->errW (exSh exS6) (exC2 a b c d) (exS6.getD j default)=0:=fun j hj h2=>by
  rcases show j=0\/j=1\/j=3\/j=4\/j=5 by omega with rfl | rfl | rfl | rfl | rfl<;>rfl
 by_cases h:wtE (exSh exS6) (exC2 a b c d) [xnW,xnV]=0
 . rw [decide_eq_true h,cond_true];refine yb7 (fun j hj=>?_);by_cases h2:j=2
   . rw [h2,e2];exact h
   . exact e0 j hj h2
 . rw [decide_eq_false h,cond_false,<-e2];exact ycp (by decide +kernel) (fun j hj=>e0 j (by omega) (by omega)) (by rw [e2];exact h)
theorem exWt {x y u v:Rat}:wtE (exSh exS6) (exC2 (Fc.of x) (Fc.of y) (Fc.of u) (Fc.of v)) [xnW,xnV]=bif badV ⟨Fc.of x,Fc.of y⟩||badV ⟨Fc.of u,Fc.of v⟩ then 3 else bif decide (x+u=0) then 15 else 0:=by
 unfold wtE;rw [List.any_cons,List.any_cons,List.any_nil,(vhh _).1,(vhh _).2,Bool.or_false,zvj,Fc.we9,Fc.we9,Rat.zero_add,Fc.yhj,decide_eq_decide.2 (y57 (y:=x+u))]
theorem z8l {x:Rat} (h:0<=x):badV ⟨Fc.of x,Fc.of x⟩=false:=by
 unfold badV;rw [decide_eq_true rfl,decide_eq_false (vgk h)];rfl
theorem wso {x y:Rat} (h:¬x=y):badV ⟨Fc.of x,Fc.of y⟩=true:=by
 unfold badV;rw [decide_eq_false (fun e=>h (Fc.vbg e))];rfl
def v32:Fl:=⟨[⟨0,0,0⟩,⟨1,0,0⟩],[⟨0,0,0,⟨#[]⟩⟩,⟨2,0,0,⟨#[104,101,97,116]⟩⟩],[[Fc.of (3 / 4),Fc.of 1],[Fc.of (1 / 4),Fc.of 0]]⟩
theorem vbs:x0f (exSh exS6) 0 (exC2 (Fc.of 3) (Fc.of 3) (Fc.of 1) (Fc.of 1))=(v32,0,0):=by
 have hw:wtE (exSh exS6) (exC2 (Fc.of 3) (Fc.of 3) (Fc.of 1) (Fc.of 1)) [xnW,xnV]=0:=by
  rw [exWt,z8l (by decide +kernel),z8l (by decide +kernel),decide_eq_false (by decide +kernel)];rfl
 have ha:divF (Fc.of 3) (Fc.add (Fc.add (Fc.of 0) (Fc.of 3)) (Fc.of 1))=Fc.of (3 / 4):=by
  rw [Fc.we9,Fc.we9,wtu (by decide +kernel)];exact congrArg Fc.of (by decide +kernel)
 have hb:divF (Fc.of 1) (Fc.add (Fc.add (Fc.of 0) (Fc.of 3)) (Fc.of 1))=Fc.of (1 / 4):=by
  rw [Fc.we9,Fc.we9,wtu (by decide +kernel)];exact congrArg Fc.of (by decide +kernel)
 have h6:=vh5 (yoa (zmd (v21 hw ha hb)));unfold x0f;rw [xpl (by decide +kernel) (by decide +kernel),cond_false,ydt,show (exSh exS6).recipes.getD (0:Int).toNat default=⟨⟨#[99,111,50]⟩,exS6⟩ from rfl];dsimp only;rw [wba,hw];show (xbw (exW (Fc.of 3) (Fc.of 3) (Fc.of 1) (Fc.of 1) 6),0,0)=_;rw [h6];unfold xbw v32 exJ exR;simp only [List.map_cons,List.map_nil,wt2,List.length_cons,List.length_nil,List.replicate_zero,List.append_nil,Nat.sub_self,Fc.we9,Fc.vsa]
 have e1:(0+(0+1)*(3 / 4)+0)*1+0=(3 / 4:Rat):=by decide +kernel
 have e2:(0+(0+0)*(3 / 4)+1)*1+0=(1:Rat):=by decide +kernel
 have e3:(0+1)*(1 / 4)+0=(1 / 4:Rat):=by decide +kernel
 have e4:(0+0)*(1 / 4)+0=(0:Rat):=by decide +kernel
 rw [e1,e2,e3,e4]
theorem yv6:x0f (exSh exS6) 0 (exC2 (Fc.of 3) (Fc.of 4) (Fc.of 1) (Fc.of 1))=(⟨[],[],[]⟩,3,2):=by
 have hw:wtE (exSh exS6) (exC2 (Fc.of 3) (Fc.of 4) (Fc.of 1) (Fc.of 1)) [xnW,xnV]=3:=by
  rw [exWt,wso (by decide +kernel)];rfl
 unfold x0f;rw [xpl (by decide +kernel) (by decide +kernel),cond_false,ydt,show (exSh exS6).recipes.getD (0:Int).toNat default=⟨⟨#[99,111,50]⟩,exS6⟩ from rfl];dsimp only;rw [wba,hw];rfl
theorem ypq:x0f (exSh exS6) 0 (exC2 (Fc.of 0) (Fc.of 0) (Fc.of 0) (Fc.of 0))=(⟨[],[],[]⟩,15,2):=by
 have hw:wtE (exSh exS6) (exC2 (Fc.of 0) (Fc.of 0) (Fc.of 0) (Fc.of 0)) [xnW,xnV]=15:=by
  rw [exWt,z8l (by decide +kernel),decide_eq_true (by decide +kernel)];rfl
 unfold x0f;rw [xpl (by decide +kernel) (by decide +kernel),cond_false,ydt,show (exSh exS6).recipes.getD (0:Int).toNat default=⟨⟨#[99,111,50]⟩,exS6⟩ from rfl];dsimp only;rw [wba,hw];rfl
theorem xa9:x0f (exSh exS5) 0 (exC2 (Fc.of 3) (Fc.of 3) (Fc.of 1) (Fc.of 1))=(⟨[],[],[]⟩,21,5):=by
 unfold x0f;rw [vkt (by decide +kernel) (by decide +kernel),cond_false,x9j.1,x9j.2];rfl
theorem zyd:ypc v32 [Fc.of 8,Fc.of 5]=true/\runF v32 [Fc.of 8,Fc.of 5]=[Fc.of 11,Fc.of 2]:=by
 have ho:∀ x:Rat,decide (Fc.of x).ok=true:=fun x=>decide_eq_true (Fc.zf6 x)
 have hs:∀ x:Rat,0<=x->decide (Fc.sign (Fc.of x)<0)=false:=fun x h=>decide_eq_false (vgk h)
 have hr:x4e v32=true:=by
  unfold x4e
  have h1:ype v32=true:=by
   refine v67 (fun k hk=>?_);have hk:k<2:=hk
   rcases show k=0\/k=1 by omega with rfl | rfl<;>rfl
  have h2:xe1 v32=true:=by
   refine v67 (fun i hi=>?_);have hi:i<2:=hi
   rcases show i=0\/i=1 by omega with rfl | rfl
   . show (true&&colF 0 [[Fc.of (3 / 4),Fc.of 1],[Fc.of (1 / 4),Fc.of 0]] (Fc.of 0))=true;unfold colF colF colF;simp only [List.getD_cons_zero,ho,hs (3 / 4) (by decide +kernel),hs (1 / 4) (by decide +kernel),Fc.we9,Bool.not_false,Bool.true_and];exact decide_eq_true (congrArg Fc.of (by decide +kernel))
   . show (true&&colF 1 [[Fc.of (3 / 4),Fc.of 1],[Fc.of (1 / 4),Fc.of 0]] (Fc.of 0))=true;unfold colF colF colF;simp only [List.getD_cons_succ,List.getD_cons_zero,ho,hs 1 (by decide +kernel),hs 0 (by decide +kernel),Fc.we9,Bool.not_false,Bool.true_and];exact decide_eq_true (congrArg Fc.of (by decide +kernel))
  rw [h1,h2];rfl
 have hok:ypc v32 [Fc.of 8,Fc.of 5]=true:=by
  unfold ypc;rw [hr,List.any_cons,List.any_cons,List.any_nil,ho,ho];rfl
 refine ⟨hok,?_⟩;unfold runF;rw [hok,cond_true];show [dotN [Fc.of 8,Fc.of 5] [Fc.of (3 / 4),Fc.of 1] 2,dotN [Fc.of 8,Fc.of 5] [Fc.of (1 / 4),Fc.of 0] 2]=_;simp only [vid,vl3,List.getD_cons_succ,List.getD_cons_zero,Fc.we9,Fc.vsa]
 have e1:0+3 / 4*8+1*5=(11:Rat):=by decide +kernel
 have e2:0+1 / 4*8+0*5=(2:Rat):=by decide +kernel
 rw [e1,e2]
end Go.Hp.T
namespace Go.Hp.T
open Go Go.RowKit Go.Slot Go.Hp Go.Slot.T
open Go.Proofs.Tryz
attribute [local irreducible] hide RH
set_option maxRecDepth 10000
set_option maxHeartbeats 8000000
variable {Γ:List (Nat×List Cell)}
theorem vv2 (L:List Int) (i:Nat) (_hL:L.length<=1099511627776) (hi:(i:Int)<=1099511627776) :
 CallsD Γ prog 197 [.one (.ints .i64 L),.one (.raw (.int .i64 i))] (.one (.raw (.int .i64 (L.getD i 0)))):=by
 refine hE [] func197 f197.eq_1 ?_;refine vdi (fun h _=>?_) (fun h _=>?_)
 . refine hg ?_;exact (.one (.refl _))
 . refine hg ?_;exact (by rw [xe7 (by omega)];exact .one (.refl _))
theorem wwu (L:List Int) (hL:L.length<=1099511627776):CallsD Γ prog 170 [.one (.ints .i64 L)] (.one (.ints .i64 (w04 L))):=by
 refine hE [] func170 f170.eq_1 ?_;refine vi3 [0,2] (fun n:Nat=>[(3,.one (.dat (cI (n))))]) (fun _=>[])
  (fun n=>n<=L.length/\x5q L L.length=x5q L n) (fun n=>n) L.length ⟨Nat.le_refl _,rfl⟩ ?_ ?_
 . refine hg ?_;exact sS
 rintro n ⟨hn,ht⟩;refine hg ?_
 have fin:x5q L L.length=n->w04 L=L.take n:=fun h=>by unfold w04;rw [h]
 refine yw1 (fun h _=>?_) (fun h _=>?_)
 . obtain ⟨m,rfl⟩:∃ m,n=m+1:=⟨n-1,by omega⟩
   have e:((m+1:Nat):Int)-1=(m:Nat):=by omega
   have h':=decide_eq_true h;refine hg2 @h' @e ?_;refine vdi (fun h2 _=>?_) (fun h2 _=>?_)
   . refine hg1 @e ?_;exact ⟨m,⟨by omega,by rw [ht];simp only [x5q];rw [if_pos h2]⟩,by omega,sS⟩
   . have hfin:x5q L L.length=m+1:=by rw [ht];simp only [x5q];rw [if_neg h2]
     rw [fin hfin];refine hg3 @e @Nat.sub_zero @List.length_take.{0} ?_;exact RLe.ofEq rfl
 . have h0:n=0:=by omega
   subst h0;rw [fin (by rw [ht];rfl)]
   conv=>simp (maxSteps:=2000000) (disch:=omega) only [go_sem,Nat.reduceAdd,Nat.reduceSub,Nat.reduceMul,Int.reduceToNat,Nat.reduceEqDiff,Nat.reduceBEq,Nat.reduceBneDiff,Nat.reduceLT,Int.reduceEq,Int.reduceLT,Int.reduceLE,Int.reduceNeg,Int.reduceAdd,Int.reduceSub,Int.reduceMul,h,Nat.sub_zero,List.length_take,Int.reduceLT,decide_false]
   exact (.one (.refl _))
theorem yuf (s:Int) (L:List Int) (hL:L.length<=1099511627776) :
 CallsD Γ prog 142 [.one (.raw (.int .i64 s)),.one (.ints .i64 L)] (.agg (bigC (if w04 L=[] then 0 else s) (w04 L))):=by
 refine hE [] func142 f142.eq_1 ?_
 first | refine w5a (wwu L hL) ?_ | refine xqd (wwu L hL) ?_
 refine hg ?_;refine vdi (fun h _=>?_) (fun h _=>?_)
 . have h0:w04 L=[]:=by have:(w04 L).length=0:=(by omega);simpa using this
   refine hg ?_;rw [h0];exact .one (.agg (.cons (.refl _) (.cons (.ypo _) .nil)))
 . have h0:w04 L≠[]:=fun e=>h (by rw [e];rfl)
   refine hg ?_
   try rw [if_neg h0]
   exact .one (.refl _)
theorem wia (s z:Int) (hz:(dig z.natAbs).length<=1073741824) (h:(s=1/\0<=z)\/(s = -1/\z<=0)\/z=0) :
 CallsD Γ prog 142 [.one (.raw (.int .i64 s)),.one (.ints .i64 (dig z.natAbs))] (.agg [.raw (.int .i64 (sg z)),.ints .i64 (dig z.natAbs)]):=by
 have h':=yuf (Γ:=Γ) s (dig z.natAbs) (by omega)
 try unfold bigC at h'
 rw [ybc h] at h';exact h'
theorem zyx (l:List Int) (i:Nat):num l=num (l.take i)+1048576 ^ i*num (l.drop i):=by
 rcases Nat.lt_or_ge l.length i with h | h
 . rw [List.drop_eq_nil_of_le (by omega),wk9 (by omega)];simp [num]
 . have:=yj4 l i
   rwa [List.length_take,Nat.min_eq_left h] at this
theorem y9k {l:List Int} (h:digits l) (i:Nat):num (l.take i)<1048576 ^ i:=
 Int.lt_of_lt_of_le (vt2 (h.take i)) (zr4 (by simp;omega))
theorem xzw {a b:List Int} (ha:digits a) (hb:digits b) (i:Nat) (h:num (a.drop (i+1))=num (b.drop (i+1))) (hlt:a.getD i 0<b.getD i 0):num a<num b:=by
 rw [zyx a i,zyx b i,zcd a,zcd b,h];have h1:=y9k ha i;have h2:=num_nonneg (hb.take i);have hp:=xo9 i;generalize (1048576:Int) ^ i=P at *;generalize num (b.drop (i+1))=T;have h3:P*(a.getD i 0+1)<=P*b.getD i 0:=Int.mul_le_mul_of_nonneg_left (by omega) (by omega);rw [Int.mul_add,Int.mul_add];rw [Int.mul_add] at h3;omega
theorem zhn (a b:List Int) (ha:digits a) (hb:digits b) (la:a.length<=1099511627776) (lb:b.length<=1099511627776) :
 CallsD Γ prog 195 [.one (.ints .i64 a),.one (.ints .i64 b)] (.one (.raw (.bool (decide (num a<num b))))):=by
 refine hE [] func195 f195.eq_1 ?_;refine vi3 [0,1,4] (fun n:Nat=>[(5,.one (.dat (cI (((n:Int)-1)))))]) (fun _=>[])
  (fun n=>n<=max a.length b.length/\num (a.drop n)=num (b.drop n)) (fun n=>n) (max a.length b.length)
  ⟨Nat.le_refl _,by rw [List.drop_eq_nil_of_le (by omega),List.drop_eq_nil_of_le (by omega)]⟩ ?_ ?_
 . refine hg ?_;rw [show (max (a.length:Int) b.length)=((max a.length b.length:Nat):Int) by omega];exact sS
 rintro n ⟨hn,he⟩;refine hg ?_;refine vdi (fun h _=>?_) (fun h _=>?_)
 . obtain ⟨i,rfl⟩:∃ i,n=i+1:=⟨n-1,by omega⟩
   have ei:((i+1:Nat):Int)-1=(i:Nat):=by omega
   refine hg1 @ei ?_
   first | refine w5a (vv2 a i la (by omega)) ?_ | refine xqd (vv2 a i la (by omega)) ?_
   refine hg1 @ei ?_
   first | refine w5a (vv2 b i lb (by omega)) ?_ | refine xqd (vv2 b i lb (by omega)) ?_
   refine hg1 @ei ?_;refine vdi (fun h2 _=>?_) (fun h2 _=>?_)
   . have h2:a.getD i 0≠b.getD i 0:=h2;refine hg1 @ei ?_
     first | refine w5a (vv2 a i la (by omega)) ?_ | refine xqd (vv2 a i la (by omega)) ?_
     refine hg1 @ei ?_
     first | refine w5a (vv2 b i lb (by omega)) ?_ | refine xqd (vv2 b i lb (by omega)) ?_
     refine hg1 @ei ?_
     have:decide (a.getD i 0<b.getD i 0)=decide (num a<num b):=by
      apply decide_eq_decide.2
      rcases Int.lt_or_gt_of_ne h2 with h3 | h3
      . have:=xzw ha hb i he h3
        exact ⟨fun _=>this,fun _=>h3⟩
      . have:=xzw hb ha i he.symm h3
        exact ⟨fun _=>by omega,fun _=>by omega⟩
     rw [this];exact .one (.refl _)
   . have h2:a.getD i 0=b.getD i 0:=by omega
     refine hg1 @ei ?_;exact ⟨i,⟨by omega,by rw [zcd a,zcd b,he,h2]⟩,by omega,sS⟩
 . have h0:n=0:=by omega
   subst h0
   have he:num a=num b:=by simpa using he
   refine hg ?_;exact (by rw [decide_eq_false (by omega)];exact .one (.refl _))
theorem xoa (l:List Int) (x:Int):num (l++[x])=num l+1048576 ^ l.length*x:=by rw [zdf];simp [num]
theorem vnu (a b:List Int) (ha:digits a) (hb:digits b) (la:a.length<=1073741824) (lb:b.length<=1073741824) :
 CallsD Γ prog 168 [.one (.ints .i64 a),.one (.ints .i64 b)] (.one (.ints .i64 (dig (num a+num b).toNat))):=by
 refine hE [(6,[.join])] func168 f168.eq_1 ?_;refine vi3 [0,1,4] (fun x:Nat×List Int×Int=>[(5,.one (.sl 0 1 0 x.2.1.length)),(6,.one (.dat (cI (x.2.2)))),(7,.one (.dat (cI (x.1))))]) (fun x=>[.arr (.ints .i64 x.2.1) 0 (some 3)])
  (fun x=>x.1<=max a.length b.length+1/\x.2.1.length=x.1/\digits x.2.1/\(0<=x.2.2/\x.2.2<=1)/\(max a.length b.length<x.1->x.2.2=0)/\num x.2.1+1048576 ^ x.1*x.2.2=num (a.take x.1)+num (b.take x.1))
  (fun x=>max a.length b.length+1-x.1) (0,[],0)
  ⟨Nat.zero_le _,rfl,digits.nil,by simp,by simp,by simp [num]⟩ ?_ ?_
 . refine hg ?_;refine StH.trans (StH.empty (d:=5) (es:=1) (c:=.ints .i64 []) (T:=some 3) rfl rfl trivial rfl) ?_;refine hg ?_;exact sS
 rintro ⟨k,l,c⟩ ⟨hk,hl,hd,hc,hc0,hn⟩;simp only at hk hl hd hc hc0 hn;refine hg ?_;refine v81 [0,1,4,5,6,7] (fun _:Unit=>[]) (fun _=>[.arr (.ints .i64 l) 0 (some 3)]) (fun _=>k<a.length\/k<b.length\/0<c) ?_ ?_
 . refine hg ?_;refine zln (fun h1 _=>?_) (fun h1 _=>?_)
   . refine hg1 @h1 ?_;refine zln (fun h2 _=>?_) (fun h2 _=>?_)
     . refine hg1 @h2 ?_;refine vdi (fun h3 _=>?_) (fun h3 _=>?_)
       . refine hg ?_;exact ⟨(),.inr (.inr h3),sS⟩
       . have hc1:c=0:=by omega
         rw [wk9 (by omega),wk9 (by omega),hc1,Int.mul_zero,Int.add_zero] at hn;refine hg ?_
         first | refine w5a (wwu l (by omega)) ?_ | refine xqd (wwu l (by omega)) ?_
         refine hg ?_;exact (by rw [xah hd hn];exact .one (.refl _))
     . have h2':=decide_eq_true h2;refine hg1 @h2' ?_;exact ⟨(),.inr (.inl (by omega)),sS⟩
   . have h1':=decide_eq_true h1;refine hg1 @h1' ?_;exact ⟨(),.inl (by omega),sS⟩
 rintro _ hgo;have hak:=ha.getD k;have hbk:=hb.getD k
 have hkm:k<=max a.length b.length:=by
  rcases Nat.lt_or_ge (max a.length b.length) k with h | h
  . have:=hc0 h;omega
  . exact h
 refine hg ?_
 first | refine w5a (vv2 a k (by omega) (by omega)) ?_ | refine xqd (vv2 a k (by omega) (by omega)) ?_
 refine hg ?_
 first | refine w5a (vv2 b k (by omega) (by omega)) ?_ | refine xqd (vv2 b k (by omega) (by omega)) ?_
 refine hg ?_;generalize hs:a.getD k 0+b.getD k 0+c=s at *;have hm:s.tmod 1048576=s % 1048576:=Int.tmod_eq_emod_of_nonneg (by omega);have hq:s.tdiv 1048576=s / 1048576:=Int.tdiv_eq_ediv_of_nonneg (by omega);refine hg2 @hm @hq ?_;refine ⟨(k+1,l++[s % 1048576],s / 1048576),⟨by dsimp only;omega,by simp [hl],hd.append (digits.cons (by omega) digits.nil),by dsimp only;omega,fun h=>?_,?_⟩,by dsimp only;omega,StH.back [0,1,4,5,6,7] 0 1 1 rfl rfl rfl rfl rfl (by kernel_rfl) (sS)⟩
 . dsimp only at h ⊢;have e1:=xe7 (l:=a) (i:=k) (by omega);have e2:=xe7 (l:=b) (i:=k) (by omega);omega
 . dsimp only;rw [xoa,hl,vb6,vb6,Int.pow_succ];have h:=Int.emod_add_mul_ediv s 1048576;generalize (1048576:Int) ^ k=P at *;generalize s % 1048576=r at *;generalize s / 1048576=q at *
   grind
theorem zzz (x y:Nat) (hxy:y<=x) (la:(dig x).length<=1073741824) :
 CallsD Γ prog 169 [.one (.ints .i64 (dig x)),.one (.ints .i64 (dig y))] (.one (.ints .i64 (dig (x-y)))):=by
 have hlb:(dig y).length<=(dig x).length:=y2d hxy;have hnx:=x2o x;have hny:=x2o y;have ha:=zkp x;have hb:=zkp y
 have hfin:(num (dig x)-num (dig y)).toNat=x-y:=by omega
 rw [<-hfin]
 have hle:num (dig y)<=num (dig x):=by omega
 clear hfin hnx hny hxy;generalize dig x=a at *;generalize dig y=b at *;refine hE [(11,[.join])] func169 f169.eq_1 ?_;refine vi3 [0,1,4] (fun x:Nat×List Int×Int=>[(5,.one (.sl 0 1 0 x.2.1.length)),(6,.one (.dat (cI (x.2.2)))),(7,.one (.dat (cI (x.1))))]) (fun x=>[.arr (.ints .i64 x.2.1) 0 (some 3)])
  (fun x=>x.1<=a.length/\x.2.1.length=x.1/\digits x.2.1/\(0<=x.2.2/\x.2.2<=1)/\num x.2.1-1048576 ^ x.1*x.2.2=num (a.take x.1)-num (b.take x.1))
  (fun x=>a.length-x.1) (0,[],0)
  ⟨Nat.zero_le _,rfl,digits.nil,by simp,by simp [num]⟩ ?_ ?_
 . refine hg ?_;refine StH.trans (StH.empty (d:=5) (es:=1) (c:=.ints .i64 []) (T:=some 3) rfl rfl trivial rfl) ?_;refine hg ?_;exact sS
 rintro ⟨k,l,c⟩ ⟨hk,hl,hd,hc,hn⟩;simp only at hk hl hd hc hn;refine hg ?_;refine vdi (fun h _=>?_) (fun h _=>?_)
 . have hak:=ha.getD k;have hbk:=hb.getD k;refine hg ?_
   first | refine w5a (vv2 b k (by omega) (by omega)) ?_ | refine xqd (vv2 b k (by omega) (by omega)) ?_
   refine hg ?_;refine hik ?_;refine hg ?_;generalize hs:a.getD k 0-b.getD k 0-c=s at *;refine v81 [0,1,4,5,7] (fun _:Unit=>[(6,.one (.dat (cI ((if s<0 then 1 else 0))))),(8,.one (.dat (cI ((if s<0 then s+1048576 else s)))))]) (fun _=>[.arr (.ints .i64 l) 0 (some 3)]) (fun _=>True) ?_ ?_
   . refine hg ?_;refine vdi (fun h1 _=>?_) (fun h1 _=>?_)
     . refine hg ?_;exact ⟨(),sS⟩
     . refine hg ?_;exact ⟨(),sS⟩
   rintro _ _;generalize hr:(if s<0 then s+1048576 else s)=r;generalize hq:(if s<0 then (1:Int) else 0)=q
   have hrq:s=r-1048576*q/\0<=r/\r<=1048575/\0<=q/\q<=1:=by
    subst hr hq
    split<;>omega
   clear hr hq;refine hg ?_;refine ⟨(k+1,l++[r],q),⟨by dsimp only;omega,by simp [hl],hd.append (digits.cons (by omega) digits.nil),by dsimp only;omega,?_⟩,by dsimp only;omega,StH.back [0,1,4,5,6,7] 0 1 1 rfl rfl rfl rfl rfl (by kernel_rfl) (sS)⟩;dsimp only;rw [xoa,hl,vb6,vb6,Int.pow_succ];have h:=hrq.1;generalize (1048576:Int) ^ k=P at *
   grind
 . have hka:k=a.length:=by omega
   rw [hka,wk9 (Nat.le_refl _),wk9 hlb] at hn;have hd0:=vt2 hd;rw [hl,hka] at hd0
   have hc0:c=0:=by
    have:=xo9 a.length
    rcases (show c=0\/c=1 by omega) with e | e
    . exact e
    . rw [e] at hn;omega
   rw [hc0,Int.mul_zero,Int.sub_zero] at hn;refine hg ?_
   first | refine w5a (wwu l (by omega)) ?_ | refine xqd (wwu l (by omega)) ?_
   refine hg ?_;exact (by rw [xah hd hn];exact .one (.refl _))
end Go.Hp.T
