/- The proof, part Q18: Ca, Cb, Cc, Cd. -/
import Derived.Test.YtkbkjjahlafhoaaGreatDoorQ17
import Derived.Test.YtkbkjjahlafhoaaGreatDoorQ16
namespace Go.Hp
open Go Go.RowKit Go.Slot
variable {Γ:List (Nat×List Cell)} {e:List SB}
theorem StH.cutN {J J':List SV} {η η':List SB} (ks:List Nat) (m:Nat) (hm:Nat.ble e.length m=true) (h:wd9 m (vjn ks 0 J) η=true) (hk:StH Γ e (vjn ks 0 J) (η.take m) J' η'):StH Γ e J η J' η':=
 StH.trans (StH.only ks) (StH.trans (StH.cutB m (by simpa using hm) h) hk)
end Go.Hp
namespace Go.Hp.T
open Go Go.RowKit Go.Slot Go.Hp Go.Slot.T
open Go.Proofs.Tryz
attribute [local irreducible] hide RH
set_option maxRecDepth 10000
set_option maxHeartbeats 4000000
variable {Γ:List (Nat×List Cell)}
theorem z1w (s:Int) (L:List Int) (hL:L.length<4611686018427387904):CallsD Γ prog 45 [.agg [.raw (.int .i64 s),.ints .i64 L]] (.one (.raw (.bool (decide (ww6 s L))))):=by
 generalize hR:decide (ww6 s L)=R
 have bad:¬ww6 s L->R=false:=fun h=>by rw [<-hR];exact decide_eq_false h
 refine hE [] func45 f45.eq_1 ?_;refine wf5 [1,3,10,11] (fun i:Nat=>[(12,.one (.dat (cI i)))]) (fun _=>[.box [.dat (cI s),.dat (.ints .i64 L)] (some 49)])
  (fun i=>i<=L.length/\digits (L.take i)) (fun i=>L.length-i) 0 ⟨Nat.zero_le _,by simp [digits]⟩ ?_ ?_
 . refine hg ?_;exact sS
 rintro i ⟨hi,hd⟩;refine hg ?_;refine y8g (fun h _=>?_) (fun h _=>?_)
 . have hi':i<L.length:=by omega
   have hget:L.getD i 0=L[i]:=by simp [hi']
   have hmem:L[i]∈L:=List.getElem_mem hi'
   have hbad:¬(0<=L.getD i 0/\L.getD i 0<=1048575)->R=false:=fun hn=>bad (fun hr=>hn (by rw [hget];exact hr.1 _ hmem))
   have hnx:0<=L.getD i 0->L.getD i 0<=1048575->digits (L.take (i+1)):=fun h1 h2 x hx=>by
    rw [List.take_add_one,List.mem_append] at hx
    rcases hx with hx | hx
    . exact hd x hx
    . simp [hi'] at hx;subst hx;rw [<-hget];omega
   clear hd hget hmem bad hR;refine hg ?_
   repeat' ((refine hfk ?_ ?_<;>intros)<;>refine hgS ?_)
   all_goals first
    | exact RLe.ofEq rfl
    | exact ⟨i+1,⟨by omega,hnx (by omega) (by omega)⟩,by omega,sS⟩
 . have hi':i=L.length:=by omega
   have hdig:digits L:=by rw [hi',List.take_length] at hd;exact hd
   have e:((L.length:Int)-1).toNat=L.length-1:=by omega
   have hfin:R=(bif decide ((L.length:Int)=0) then decide (s=0) else (decide (s=1)||decide (s = -1))&&decide (¬L.getD (L.length-1) 0=0)):=by
    rw [<-hR];by_cases h0:L=[]
    . subst h0;show decide (ww6 s [])=decide (s=0);apply decide_eq_decide.2;simp [ww6,digits]
    . have:L.length≠0:=fun e=>h0 (List.eq_nil_of_length_eq_zero e)
      rw [decide_eq_false (by omega:¬(L.length:Int)=0),cond_false,<-Bool.decide_or,<-Bool.decide_and];apply decide_eq_decide.2;simp only [ww6];constructor
      . rintro ⟨_,⟨h4,_⟩ | ⟨_,h5,h4⟩⟩
        . exact absurd h4 h0
        . exact ⟨h5,h4⟩
      . exact fun h4=>⟨hdig,.inr ⟨h0,h4.1,h4.2⟩⟩
   rw [hfin];clear hfin hdig hd bad hR;refine hg1 @e ?_
   repeat' ((refine hfk ?_ ?_<;>intros)<;>refine hgS ?_)
   all_goals refine lfE ?_;first | exact trivial | rfl
theorem xgp (L:List Int) (hL:L.length<4611686018427387904):CallsD Γ prog 144 [.one (.ints .i64 L)] (.one (.ints .i64 (L.take (x2r L L.length)))):=by
 generalize hR:x2r L L.length=R;refine hE [] func144 f144.eq_1 ?_;refine wf5 [0] (fun n:Nat=>[(3,.one (.dat (cI n)))]) (fun _=>[]) (fun n=>n<=L.length/\R=x2r L n) (fun n=>n) L.length ⟨Nat.le_refl _,hR.symm⟩ ?_ ?_
 . refine hg ?_;exact sS
 clear hR;rintro n ⟨hn,ht⟩
 cases n with
 | zero=>
  have ht:R=0:=ht;refine hg ?_
  repeat' ((refine hfk ?_ ?_<;>intros)<;>refine hgS ?_)
  all_goals first
   | (exfalso;omega)
   | exact RLe.ofEq rfl
 | succ m=>
  have e:((m+1:Nat):Int)-1=(m:Nat):=by omega
  by_cases h2:L.getD m 0=0
  . have ht':R=x2r L m:=by rw [ht];simp only [x2r];rw [if_pos h2]
    clear ht;refine hg1 @e ?_
    (refine hfk ?_ ?_<;>intros)<;>refine hgS ?_
    all_goals first
     | (exfalso;omega)
     | exact ⟨m,⟨by omega,by first | exact ht' | rfl⟩,by omega,sS⟩
  . have ht':R=m+1:=by rw [ht];simp only [x2r];rw [if_neg h2]
    clear ht;refine hg1 @e ?_
    (refine hfk ?_ ?_<;>intros)<;>refine hgS ?_
    all_goals first
     | (exfalso;omega)
     | exact RLe.ofEq rfl
theorem xos (L:List Int) (hL:L.length<4611686018427387904) (k:Nat) (T:Option TypeId):xbh Γ prog 144 [.arr (.ints .i64 L) k T] [.one (.sl 0 1 0 L.length)] [.arr (.ints .i64 L) k T] (.one (.sl 0 1 0 (x2r L L.length))):=by
 generalize hR:x2r L L.length=R;refine hEh [] func144 f144.eq_1 ?_;refine wf5 [0] (fun n:Nat=>[(3,.one (.dat (cI n)))]) (fun _=>[.arr (.ints .i64 L) k T]) (fun n=>n<=L.length/\R=x2r L n) (fun n=>n) L.length ⟨Nat.le_refl _,hR.symm⟩ ?_ ?_
 . refine hg ?_;exact sS
 clear hR;rintro n ⟨hn,ht⟩
 cases n with
 | zero=>
  have ht:R=0:=ht;refine hg ?_
  repeat' ((refine hfk ?_ ?_<;>intros)<;>refine hgS ?_)
  all_goals first
   | (exfalso;omega)
   | exact StH.y4a rfl (by kernel_rfl) rfl
 | succ m=>
  have e:((m+1:Nat):Int)-1=(m:Nat):=by omega
  by_cases h2:L.getD m 0=0
  . have ht':R=x2r L m:=by rw [ht];simp only [x2r];rw [if_pos h2]
    clear ht;refine hg1 @e ?_
    (refine hfk ?_ ?_<;>intros)<;>refine hgS ?_
    all_goals first
     | (exfalso;omega)
     | exact ⟨m,⟨by omega,by first | exact ht' | rfl⟩,by omega,sS⟩
  . have ht':R=m+1:=by rw [ht];simp only [x2r];rw [if_neg h2]
    clear ht;refine hg1 @e ?_
    (refine hfk ?_ ?_<;>intros)<;>refine hgS ?_
    all_goals first
     | (exfalso;omega)
     | exact StH.y4a rfl (by kernel_rfl) rfl
def bigC (s:Int) (L:List Int):List Cell:=[.raw (.int .i64 s),.ints .i64 L]
abbrev bigA (s:Int) (L:List Int):List Cell:=[.raw (.int .i64 s),.ints .i64 L]
theorem bigZ {s:Int}:AV.Le (.agg [cI s,.zc]) (.agg (bigA s [])):=.agg (.cons (.refl _) (.cons (.v3s _) .nil))
theorem zfz (s:Int) (L:List Int) (hL:L.length<4611686018427387904) :
 CallsD Γ prog 89 [.one (.raw (.int .i64 s)),.one (.ints .i64 L)] (.agg (bigA (if y7d L=[] then 0 else s) (y7d L))):=by
 have ht:CallsD Γ prog 144 [.one (.ints .i64 L)] (.one (.ints .i64 (y7d L))):=xgp L hL;generalize y7d L=M at ht;by_cases h0:M=[]
 . subst h0;rw [if_pos rfl];refine hE [] func89 f89.eq_1 ?_
   repeat' ((first|refine hfk ?_ ?_<;>intros|with_reducible refine wdy ht ?_)<;>refine hgS ?_)
   all_goals first
    | (exfalso;omega)
    | exact .one bigZ
 . rw [if_neg h0]
   have h1:¬(M.length:Int)=0:=fun h=>h0 (List.eq_nil_of_length_eq_zero (by omega))
   refine hE [] func89 f89.eq_1 ?_
   (with_reducible refine wdy ht ?_)<;>refine hgS ?_
   exact RLe.ofEq rfl
theorem zsw (b:Bool) (s:Int) (L:List Int) :
 CallsD Γ prog 86 [.one (.raw (.bool b)),.agg (bigA s L)] (.tup [.agg (if b then bigA s L else bigA 0 []),.one (.raw (.int .i64 (if b then 0 else 1)))]):=by
 cases b with
 | true=>
  refine hE [] func86 f86.eq_1 ?_;exact RLe.ofEq rfl
 | false=>
  refine hE [] func86 f86.eq_1 ?_;exact .tup (.cons bigZ (.cons (.refl _) .nil))
end Go.Hp.T
namespace Go.Hp.T
open Go Go.RowKit Go.Slot Go.Hp Go.Slot.T
open Go.Proofs.Tryz
variable {k i j:Nat} {w o:List Int}
attribute [local irreducible] hide RH
set_option maxRecDepth 10000
set_option maxHeartbeats 4000000
variable {Γ:List (Nat×List Cell)}
theorem CallsD.zt9 {f:FuncId} {k:IntKind} {res:AV} (h:∀ b,CallsD Γ prog f [.one (.nn b)] res):CallsD Γ prog f [.one (.ints k [])] res:=by
 refine ⟨(h true).1,fun M w vs hM hg hr=>?_⟩
 match vs,hr with
 | [v],hr=>
  have hv:RdC M w v (.ints k []):=hr.1
  cases hv with
  | @ints a len cap _ _ b off hl hc ha hh=>
   subst hl;exact (h a.isNone).2 M w _ hM hg ⟨(RdC.nn:RdC M w (.slice a 0 cap) (.nn a.isNone)),trivial⟩
theorem ysz {L:List Int} {n:Int} (hd:digits L) (h:num L=n):L.take (x2r L L.length)=dig n.toNat:=xrd hd h
theorem w6d (a b:List Int) (ha:digits a) (hb:digits b) (la:a.length<=1099511627776) (lb:b.length<=1099511627776) :
 CallsD Γ prog 92 [.one (.ints .i64 a),.one (.ints .i64 b)] (.one (.ints .i64 (dig (num a+num b).toNat))):=by
 generalize hR:dig (num a+num b).toNat=R;refine hE [(3,[.join])] func92 f92.eq_1 ?_;refine y7q [0,1] (fun p:List Int×List Int=>[(0,.one (.dat (.ints .i64 p.1))),(1,.one (.dat (.ints .i64 p.2)))]) (fun _=>[])
  (fun p=>p.2.length<=p.1.length/\digits p.1/\digits p.2/\num p.1+num p.2=num a+num b/\p.1.length<=1099511627776) ?_ ?_
 . refine hg ?_;refine y8g (fun h _=>?_) (fun h _=>?_)
   . refine hg ?_;exact ⟨(b,a),⟨by dsimp only;omega,hb,ha,Int.add_comm _ _,lb⟩,sS⟩
   . refine hg ?_;exact ⟨(a,b),⟨by dsimp only;omega,ha,hb,rfl,la⟩,sS⟩
 rintro ⟨p,q⟩ ⟨hle,hp,hq,hs,hl⟩;simp only at hle hp hq hs hl;refine hg ?_;refine wf5 [0,1,20,21] (fun x:Nat×List Int×Int=>[(5,.one (.sl 0 1 0 (p.length+1))),(6,.one (.dat (cI x.2.2))),(22,.one (.dat (cI x.1)))])
  (fun x=>[.arr (.ints .i64 x.2.1) 0 none])
  (fun x=>x.1<=p.length/\x.2.1.length=p.length+1/\digits x.2.1/\yoy x.2.1 x.1/\(0<=x.2.2/\x.2.2<=1)/\num x.2.1+1048576 ^ x.1*x.2.2=num (p.take x.1)+num (q.take x.1))
  (fun x=>p.length-x.1) (0,List.replicate ((p.length:Int)+1).toNat 0,0)
  ⟨Nat.zero_le _,by simp,digits.rep _,yoy.rep _,by simp,by simp [wtk,num]⟩ ?_ ?_
 . refine hg ?_;exact sS
 rintro ⟨i,o,c⟩ ⟨hi,ho,hdo,hz,hc,hn⟩;simp only at hi ho hdo hz hc hn;refine hg1 @ho ?_;refine y8g (fun h _=>?_) (fun h _=>?_)
 . have hpi:=hp.getD i;have hqi:=hq.getD i;refine hg1 @ho ?_;have hz0:=hz i (Nat.le_refl _)
   have key:∀ s:Int,s=c+p.getD i 0+q.getD i 0->num (o.set i (s % 1048576))+1048576 ^ (i+1)*(s / 1048576)=num (p.take (i+1))+num (q.take (i+1)):=fun s hs=>by
    rw [z9a (by omega) s,zb2,zb2,hz0,hs]
    grind
   refine y8g (fun h1 _=>?_) (fun h1 _=>?_)
   . refine hg3 @xxg @xmm @ho ?_
     exact ⟨(i+1,o.set i ((c+p.getD i 0+q.getD i 0) % 1048576),(c+p.getD i 0+q.getD i 0) / 1048576),
      ⟨by dsimp only;omega,by simpa using ho,hdo.set i (by omega),hz.set _,by dsimp only;omega,key _ rfl⟩,by dsimp only;omega,sS⟩
   . refine hg3 @xxg @xmm @ho ?_;have hq0:=zg7 (l:=q) (i:=i) (by omega)
     exact ⟨(i+1,o.set i ((c+p.getD i 0) % 1048576),(c+p.getD i 0) / 1048576),
      ⟨by dsimp only;omega,by simpa using ho,hdo.set i (by omega),hz.set _,by dsimp only;omega,key _ (by omega)⟩,by dsimp only;omega,sS⟩
 . refine hg1 @ho ?_
   have hip:i=p.length:=by omega
   subst hip
   have hlen:(o.set p.length c).length<4611686018427387904:=by simp;omega
   have hnum:num (o.set p.length c)=num a+num b:=by
    rw [yam _ _ _ (by omega),hz _ (Nat.le_refl _),<-hs];rw [yln (Nat.le_refl _),yln hle] at hn;rw [<-hn];grind
   have hdig:digits (o.set p.length c):=hdo.set _ (by omega);rw [show p.length+1=(o.set p.length c).length by simp [ho]];generalize o.set p.length c=r at *;have htr:=xy4 r r.length;refine wdy (xgp r hlen) ?_;rw [ysz hdig hnum,hR];refine hg ?_;exact RLe.ofEq rfl
theorem wto (L:List Int) (h0:0<L.length) (hL:L.length<=17592186044416):xbh Γ prog 87 [] [.one (.dat (.ints .i64 L))] [.arr (.ints .i64 L) 0 (some 3)] (.one (.sl 0 1 0 L.length)):=by
 refine hEh [] func87 f87.eq_1 ?_;exact StH.refl
theorem w7v:CallsD Γ prog 87 [.one (.ints .i64 [])] (.one (.ints .i64 [])):=by
 refine CallsD.zt9 (fun b=>?_);refine hE [] func87 f87.eq_1 ?_
 refine hF ?_ ?_<;>intros
 all_goals first
  | exact .one (.one (.zt9 _))
  | exact RLe.ofEq rfl
theorem v3g (a b:List Int) (ha:digits a) (hb:digits b) (la:a.length<=1099511627776) (hlen:b.length<=a.length) (hle:num b<=num a) :
 CallsD Γ prog 94 [.one (.ints .i64 a),.one (.ints .i64 b)] (.one (.ints .i64 (dig (num a-num b).toNat))):=by
 by_cases hnil:a=[]
 . subst hnil;have hb0:b=[]:=List.eq_nil_of_length_eq_zero (by simpa using hlen);subst hb0;have h0:=w7v (Γ:=Γ);have h1:CallsD Γ prog 144 [.one (.ints .i64 [])] (.one (.ints .i64 [])):=xgp [] (by decide);rw [show num []-num []=0 from rfl,show (0:Int).toNat=0 from rfl,v6p];refine hE [] func94 f94.eq_1 ?_;refine wdy h0 ?_;refine hg ?_;refine x2t ?_;refine hg ?_
   repeat' first|refine hF ?_ ?_<;>intros|(with_reducible refine wdy h1 ?_)<;>refine hgS ?_
   all_goals first
    | (exfalso;simp_all;done)
    | exact RLe.ofEq rfl
 have hpos:0<a.length:=List.length_pos_iff.2 hnil;generalize hR:dig (num a-num b).toNat=R;refine hE [] func94 f94.eq_1 ?_;refine v92 (wto a hpos (by omega)) rfl ?_;refine hg ?_;refine wf5 [0,1,11,12] (fun x:Nat×List Int×Int=>[(5,.one (.sl 0 1 0 a.length)),(6,.one (.dat (cI x.2.2))),(13,.one (.dat (cI x.1)))])
  (fun x=>[.arr (.ints .i64 x.2.1) 0 (some 3)])
  (fun x=>x.1<=a.length/\x.2.1.length=a.length/\digits x.2.1/\(0<=x.2.2/\x.2.2<=1)/\num x.2.1-1048576 ^ x.1*x.2.2=num a-num (b.take x.1))
  (fun x=>a.length-x.1) (0,a,0)
  ⟨Nat.zero_le _,rfl,ha,by simp,by simp [num]⟩ ?_ ?_
 . refine hg ?_;exact sS
 rintro ⟨i,o,c⟩ ⟨hi,ho,hdo,hc,hn⟩;simp only at hi ho hdo hc hn;refine hg1 @ho ?_;refine y8g (fun h _=>?_) (fun h _=>?_)
 . have hoi:=hdo.getD i;have hbi:=hb.getD i;refine hg1 @ho ?_
   have key:∀ s:Int,s=o.getD i 0-c-b.getD i 0->num (o.set i (s % 1048576))-1048576 ^ (i+1)*(s / 1048576 % 2)=num a-num (b.take (i+1)):=fun s hs=>by
    have h1:=z9a (o:=o) (i:=i) (by omega) s
    have h2:s / 1048576 % 2 = - (s / 1048576):=by omega
    rw [zb2,h2];rw [hs] at h1 ⊢
    grind
   refine y8g (fun h1 _=>?_) (fun h1 _=>?_)
   . refine hg4 @xxg @and1 @xmm @ho ?_
     exact ⟨(i+1,o.set i ((o.getD i 0-c-b.getD i 0) % 1048576),(o.getD i 0-c-b.getD i 0) / 1048576 % 2),
      ⟨by dsimp only;omega,by simpa using ho,hdo.set i (by omega),by dsimp only;omega,key _ rfl⟩,by dsimp only;omega,sS⟩
   . refine hg4 @xxg @and1 @xmm @ho ?_;have hb0:=zg7 (l:=b) (i:=i) (by omega)
     exact ⟨(i+1,o.set i ((o.getD i 0-c) % 1048576),(o.getD i 0-c) / 1048576 % 2),
      ⟨by dsimp only;omega,by simpa using ho,hdo.set i (by omega),by dsimp only;omega,key _ (by omega)⟩,by dsimp only;omega,sS⟩
 . refine hg1 @ho ?_
   have hip:i=a.length:=by omega
   subst hip;rw [yln hlen] at hn;have h1:=wg0 hdo;have h2:=num_nonneg hdo;rw [ho] at h1
   have hc0:c=0:=by
    rcases Int.le_iff_eq_or_lt.1 hc.2 with h3 | h3
    . rw [h3] at hn;omega
    . omega
   subst hc0
   have hnum:num o=num a-num b:=by rw [<-hn];simp
   refine wdy (xgp o (by omega)) ?_;rw [ysz hdo hnum,hR];refine hg ?_;exact RLe.ofEq rfl
theorem za5 (a b:List Int) (ha:digits a) (hb:digits b) (la:a.length<=1099511627776) (lb:b.length<=1099511627776) :
 CallsD Γ prog 145 [.one (.ints .i64 a),.one (.ints .i64 b)] (.one (.ints .i64 (dig (num a*num b).toNat))):=by
 generalize hR:dig (num a*num b).toNat=R;refine hE [] func145 f145.eq_1 ?_;refine wf5 [0,1,18,19] (fun x:Nat×List Int=>[(5,.one (.sl 0 1 0 (a.length+b.length))),(20,.one (.dat (cI x.1)))])
  (fun x=>[.arr (.ints .i64 x.2) 0 none])
  (fun x=>x.1<=a.length/\x.2.length=a.length+b.length/\digits x.2/\yoy x.2 (x.1+b.length)/\num x.2=num (a.take x.1)*num b)
  (fun x=>a.length-x.1) (0,List.replicate ((a.length:Int)+b.length).toNat 0)
  ⟨Nat.zero_le _,by simp;omega,digits.rep _,(yoy.rep _).mono (Nat.zero_le _),by simp [num,wtk]⟩ ?_ ?_
 . have e:((a.length:Int)+b.length).toNat=a.length+b.length:=by omega
   refine hg1 @e ?_;exact sS
 rintro ⟨i,o⟩ ⟨hi,ho,hdo,hz,hn⟩;simp only at hi ho hdo hz hn;refine hg1 @ho ?_;refine y8g (fun h _=>?_) (fun h _=>?_)
 . refine hg1 @ho ?_;have hai:=ha.getD i;refine wf5 [0,1,5,6,7,18,19,20,25,26] (fun x:Nat×List Int×Int=>[(8,.one (.dat (cI x.2.2))),(27,.one (.dat (cI x.1)))])
    (fun x=>[.arr (.ints .i64 x.2.1) 0 none])
    (fun x=>x.1<=b.length/\x.2.1.length=a.length+b.length/\digits x.2.1/\yoy x.2.1 (i+b.length)/\(0<=x.2.2/\x.2.2<=1048575)/\
      num x.2.1+1048576 ^ (i+x.1)*x.2.2=num (a.take i)*num b+1048576 ^ i*(a.getD i 0*num (b.take x.1)))
    (fun x=>b.length-x.1) (0,o,0)
    ⟨Nat.zero_le _,ho,hdo,hz,by simp,by simp [num,hn]⟩ ?_ ?_
   . refine hg1 @ho ?_;exact sS
   rintro ⟨k,o',c⟩ ⟨hk,ho',hdo',hz',hc,hn'⟩;simp only at hk ho' hdo' hz' hc hn';refine hg1 @ho' ?_;refine y8g (fun h1 _=>?_) (fun h1 _=>?_)
   . have hbk:=hb.getD k;have hok:=hdo'.getD (i+k);have hprod:0<=a.getD i 0*b.getD k 0/\a.getD i 0*b.getD k 0<=1048575*1048575:=⟨Int.mul_nonneg hai.1 hbk.1,Int.mul_le_mul hai.2 hbk.2 hbk.1 (by decide)⟩
     have eik:((i:Int)+k).toNat=i+k:=by omega
     refine hg4 @xxg @xmm @eik @ho' ?_;generalize hs:o'.getD (i+k) 0+a.getD i 0*b.getD k 0+c=s at *;have h2:=z9a (o:=o') (i:=i+k) (by omega) s
     refine ⟨(k+1,o'.set (i+k) (s % 1048576),s / 1048576),
      ⟨by dsimp only;omega,by simpa using ho',hdo'.set _ (by omega),hz'.zra _ (by omega),by dsimp only;omega,?_⟩,by dsimp only;omega,sS⟩
     dsimp only;rw [zb2,show i+(k+1)=i+k+1 by omega,h2,<-hs,Int.pow_add];rw [Int.pow_add] at hn'
     grind
   . have hkb:k=b.length:=by omega
     subst hkb
     have eib:((i:Int)+b.length).toNat=i+b.length:=by omega
     have hz0:=hz' (i+b.length) (Nat.le_refl _);refine hg4 @eib @hz0 @Int.zero_add @ho' ?_;refine ⟨(i+1,o'.set (i+b.length) c),⟨by dsimp only;omega,by simpa using ho',hdo'.set _ (by omega),?_,?_⟩,by dsimp only;omega,sS⟩
     . exact (hz'.set c).mono (by dsimp only;omega)
     . dsimp only;rw [yam _ _ _ (by omega),hz0,zb2];rw [List.take_length] at hn'
       grind
 . have hia:i=a.length:=by omega
   subst hia;rw [List.take_length] at hn;refine hg1 @ho ?_;refine wdy (xgp o (by omega)) ?_;rw [ysz hdo hn,hR];refine hg ?_;exact RLe.ofEq rfl
theorem yel (a:List Int) (d:Int) (ha:digits a) (la:a.length<=1099511627776) (hd:1<=d/\d<=1048576) :
 CallsD Γ prog 143 [.one (.ints .i64 a),.one (.raw (.int .i64 d))] (.tup [.one (.ints .i64 (dig (num a / d).toNat)),.one (.raw (.int .i64 (num a % d)))]):=by
 generalize hR:dig (num a / d).toNat=R;generalize hS:num a % d=S;refine hE [] func143 f143.eq_1 ?_;refine wf5 [0,1] (fun x:Nat×List Int×Int=>[(6,.one (.sl 0 1 0 a.length)),(7,.one (.dat (cI x.2.2))),(8,.one (.dat (cI ((x.1:Int)-1))))])
  (fun x=>[.arr (.ints .i64 x.2.1) 0 none])
  (fun x=>x.1<=a.length/\x.2.1.length=a.length/\digits x.2.1/\(0<=x.2.2/\x.2.2<d)/\num (a.drop x.1)=d*num (x.2.1.drop x.1)+x.2.2)
  (fun x=>x.1) (a.length,List.replicate (a.length:Int).toNat 0,0)
  ⟨Nat.le_refl _,by simp,digits.rep _,by simp;omega,by simp [num]⟩ ?_ ?_
 . refine hg ?_;exact sS
 rintro ⟨n,o,r⟩ ⟨hn,ho,hdo,hr,he⟩;simp only at hn ho hdo hr he;refine hg1 @ho ?_;refine y8g (fun h _=>?_) (fun h _=>?_)
 . obtain ⟨i,rfl⟩:∃ i,n=i+1:=⟨n-1,by omega⟩
   have ei:((i+1:Nat):Int)-1=(i:Nat):=by omega
   have hai:=ha.getD i;refine hg4 @ei @vf3 @or20 @ho ?_;generalize ht:r*1048576+a.getD i 0=t at *
   have ht0:0<=t:=by omega
   have htd:t<d*1048576:=by
    have:r*1048576<=(d-1)*1048576:=Int.mul_le_mul_of_nonneg_right (by omega) (by decide)
    omega
   have hq:t.tdiv d=t / d:=Int.tdiv_eq_ediv_of_nonneg ht0;have hm:t.tmod d=t % d:=Int.tmod_eq_emod_of_nonneg ht0;have hq0:0<=t / d:=Int.ediv_nonneg ht0 (by omega);have hq1:t / d<1048576:=Int.ediv_lt_of_lt_mul (by omega) (by rw [Int.mul_comm];exact htd);have hm0:0<=t % d:=Int.emod_nonneg _ (by omega);have hm1:t % d<d:=Int.emod_lt_of_pos _ (by omega);have hdm:=Int.emod_add_mul_ediv t d;rw [hq,hm];refine hg1 @ho ?_;refine ⟨(i,o.set i (t / d),t % d),⟨by dsimp only;omega,by simpa using ho,hdo.set _ (by omega),by dsimp only;omega,?_⟩,by dsimp only;omega,sS⟩;dsimp only;rw [xkb _ (by omega),z4x,he];simp only [num]
   grind
 . have h0:n=0:=by omega
   subst h0;simp only [List.drop_zero] at he
   have hq:num a / d=num o:=by
    rw [he,Int.add_comm,Int.add_mul_ediv_left _ _ (by omega),Int.ediv_eq_zero_of_lt hr.1 hr.2];omega
   have hm:num a % d=r:=by
    rw [he,Int.add_comm,Int.add_mul_emod_self_left,Int.emod_eq_of_lt hr.1 hr.2]
   refine hg1 @ho ?_;refine wdy (xgp o (by omega)) ?_;rw [ysz hdo hq.symm,hR];rw [hS] at hm;subst hm;refine hg ?_;exact RLe.ofEq rfl
theorem hNaN (x:Int):CallsD Γ prog 171 [.one (.raw (.int .i64 x))] (.one (.raw (.bool false))):=by
 refine hE [] func171 f171.eq_1 ?_
 all_goals refine lfE ?_;first | exact trivial | rfl
theorem hCmp (x y:Int):CallsD Γ prog 147 [.one (.raw (.int .i64 x)),.one (.raw (.int .i64 y))] (.one (.raw (.int .i64 (ord x y)))):=by
 refine hE [] func147 f147.eq_1 ?_
 repeat' first|refine hF ?_ ?_<;>intros|(with_reducible first|refine wdy (hNaN x) ?_|refine wdy (hNaN y) ?_)<;>refine hgS ?_
 all_goals refine lf1 @ord.eq_def ?_;first | exact trivial | rfl
theorem wg9 (a b:List Int) (ha:digits a) (na:norm a) (hb:digits b) (nb:norm b) (la:a.length<=1099511627776) :
 CallsD Γ prog 93 [.one (.ints .i64 a),.one (.ints .i64 b)] (.one (.raw (.int .i64 (ord (num a) (num b))))):=by
 generalize hR:ord (num a) (num b)=R;refine hE [] func93 f93.eq_1 ?_;refine y8g (fun h _=>?_) (fun h _=>?_)
 . have:ord (a.length:Int) b.length=R:=by
    rw [<-hR];unfold ord
    rcases Nat.lt_or_gt_of_ne (fun e:a.length=b.length=>h (by omega)) with h1 | h1
    . have:=w2l ha na hb nb h1
      rw [if_pos (by omega),if_pos this]
    . have:=w2l hb nb ha na h1
      rw [if_neg (by omega),if_pos (by omega),if_neg (by omega),if_pos this]
   have hc:=hCmp (Γ:=Γ) (a.length:Int) b.length;rw [this] at hc;refine hg ?_;refine wdy hc ?_;refine hg ?_;exact RLe.ofEq rfl
 . have hl:a.length=b.length:=by omega
   refine hg ?_;refine wf5 [0,1] (fun n:Nat=>[(5,.one (.dat (cI ((n:Int)-1))))]) (fun _=>[])
    (fun n=>n<=a.length/\a.drop n=b.drop n) (fun n=>n) a.length
    ⟨Nat.le_refl _,by rw [List.drop_length,hl,List.drop_length]⟩ ?_ ?_
   . refine hg ?_;exact sS
   rintro n ⟨hn,he⟩;refine hg ?_;refine y8g (fun h1 _=>?_) (fun h1 _=>?_)
   . obtain ⟨i,rfl⟩:∃ i,n=i+1:=⟨n-1,by omega⟩
     have ei:((i+1:Nat):Int)-1=(i:Nat):=by omega
     have hc:=hCmp (Γ:=Γ) (a.getD i 0) (b.getD i 0);by_cases h2:a.getD i 0=b.getD i 0
     . have hne:a.drop i=b.drop i:=by
        have e1:∀(l:List Int),i<l.length->l.drop i=l.getD i 0::l.drop (i+1):=fun l hi=>by
         rw [List.drop_eq_getElem_cons hi]
         congr 1
         simp [hi]
        rw [e1 a (by omega),e1 b (by omega),he,h2]
       clear he hR;refine hg1 @ei ?_
       repeat' first|refine hF ?_ ?_<;>intros|refine hI ?_
       all_goals first
        | (exfalso;omega)
        | exact ⟨i,⟨by omega,hne⟩,by omega,sS⟩
     . have:ord (a.getD i 0) (b.getD i 0)=R:=by
        rw [<-hR];unfold ord
        rcases Int.lt_or_gt_of_ne h2 with h3 | h3
        . have:=zou ha hb hl i (by omega) he h3
          rw [if_pos h3,if_pos this]
        . have:=zou hb ha hl.symm i (by omega) he.symm h3
          rw [if_neg (by omega),if_pos (by omega),if_neg (by omega),if_pos this]
       rw [this] at hc;clear he hR this;refine hg1 @ei ?_
       repeat' first|refine hF ?_ ?_<;>intros|refine hI ?_|(with_reducible refine y04 hc ?_)<;>refine hgS ?_
       all_goals first
        | (exfalso;omega)
        | exact RLe.ofEq rfl
   . have h0:n=0:=by omega
     subst h0
     have he:a=b:=by simpa using he
     have:R=0:=by rw [<-hR,he];simp [ord]
     subst this;clear hR;refine hg ?_;exact RLe.ofEq rfl
def settled (u v g:Int):Int:=if u<g*v then g-1 else g
def win (i k:Nat) (w:List Int):List Int:=(w.drop i).take k
def wout (i k:Nat) (w o:List Int):List Int:=w.take i++(o++w.drop (i+k))
theorem ypl (h:i+k<=w.length):(win i k w).length=k:=by unfold win;rw [List.length_take,List.length_drop];omega
theorem x2g (h:i+k<=w.length) (ho:o.length=k):(wout i k w o).length=w.length:=by
 unfold wout;simp only [List.length_append,List.length_take,List.length_drop];omega
theorem wjq:wout i k w (win i k w)=w:=by
 unfold wout win;rw [<-List.drop_drop,List.take_append_drop,List.take_append_drop]
theorem wcn (h:i+k<=w.length) (ho:o.length=k) (hj:j<k):(wout i k w o).getD (i+j) 0=o.getD j 0:=by
 unfold wout;rw [List.getD_eq_getElem?_getD,List.getD_eq_getElem?_getD,List.getElem?_append_right (by rw [List.length_take];omega),List.length_take,show i+j-min i w.length=j by omega,List.getElem?_append_left (by omega)]
theorem z4q {x:Int} (h:i+k<=w.length) (ho:o.length=k) (hj:j<k):(wout i k w o).set (i+j) x=wout i k w (o.set j x):=by
 unfold wout;rw [List.set_append_right _ _ (by rw [List.length_take];omega),List.length_take,show i+j-min i w.length=j by omega,List.set_append_left _ _ (by omega)]
theorem vo6 (w v:List Int) (i0 k:Nat) (g:Int) (T:Option TypeId) (hw:digits w) (hv:digits v) (hk:k<=1099511627776) (hik:i0+k<=w.length) (hl:v.length<=k) (_hw2:w.length<=1099511627776) (hgg:0<=g/\g<=1048575)
 (h1:(g-1)*num v<=num (win i0 k w)) :
 xbh Γ prog 146 [.arr (.ints .i64 w) 0 T] [.one (.sl 0 1 i0 k),.one (.dat (.ints .i64 v)),.one (.dat (cI g))]
  [.arr (.ints .i64 (wout i0 k w (fixd k (num (win i0 k w)-settled (num (win i0 k w)) (num v) g*num v)))) 0 T] (.one (.dat (cI (settled (num (win i0 k w)) (num v) g)))):=by
 have hwl:=ypl hik;have hu:digits (win i0 k w):=(hw.drop i0).take k;have hs0:wout i0 k w (win i0 k w)=w:=wjq;generalize win i0 k w=u at *
 have hF:∀ o g',o.length=k->digits o->num o=num u-g'*num v->wout i0 k w (fixd k (num u-g'*num v))=wout i0 k w o:=fun o g' ho hd hn=>by
  rw [<-hn,<-xhl hd ho rfl]
 refine hEh [] func146 f146.eq_1 ?_;refine wf5 [0,1,2,12,13] (fun x:Nat×List Int×Int=>[(7,.one (.dat (cI x.2.2))),(14,.one (.dat (cI x.1)))])
  (fun x=>[.arr (.ints .i64 (wout i0 k w x.2.1)) 0 T])
  (fun x=>x.1<=k/\x.2.1.length=k/\digits x.2.1/\(0<=x.2.2/\x.2.2<=1048575)/\num x.2.1-1048576 ^ x.1*x.2.2=num u-g*num (v.take x.1))
  (fun x=>k-x.1) (0,u,0)
  ⟨Nat.zero_le _,hwl,hu,by simp,by simp [num]⟩ ?_ ?_
 . refine hg ?_;exact StH.same svl (by rw [hs0])
 rintro ⟨i,o,c⟩ ⟨hi,ho,hdo,hc,hn⟩;simp only at hi ho hdo hc hn;have hol:=x2g hik ho;refine hg1 @hol ?_;refine y8g (fun h _=>?_) (fun h _=>?_)
 . have hik2:i<k:=by omega
   have hge:=wcn (w:=w) hik ho hik2
   have hse:=fun x=>z4q (w:=w) (x:=x) hik ho hik2
   have hoi:=hdo.getD i;have hvi:=hv.getD i;have hprod:0<=g*v.getD i 0/\g*v.getD i 0<=1048575*1048575:=⟨Int.mul_nonneg hgg.1 hvi.1,Int.mul_le_mul hgg.2 hvi.2 hvi.1 (by decide)⟩
   have key:∀ s:Int,s=o.getD i 0-c-g*v.getD i 0->num (o.set i (s % 1048576))-1048576 ^ (i+1)*(0-s / 1048576)=num u-g*num (v.take (i+1)):=fun s hs=>by
    have h1:=z9a (o:=o) (i:=i) (by omega) s;rw [zb2];rw [hs] at h1 ⊢
    grind
   refine hg2 @hol @hge ?_;refine y8g (fun h1 _=>?_) (fun h1 _=>?_)
   . refine hg2 @hol @hge ?_;generalize hp:g*v.getD i 0=p at *;refine hg5 @xxg @xmm @hol @hge @hse ?_
     exact ⟨(i+1,o.set i ((o.getD i 0-c-p) % 1048576),0-(o.getD i 0-c-p) / 1048576),
      ⟨by dsimp only;omega,by simpa using ho,hdo.set i (by omega),by dsimp only;omega,key _ rfl⟩,by dsimp only;omega,sS⟩
   . have hv0:=zg7 (l:=v) (i:=i) (by omega);refine hg5 @xxg @xmm @hol @hge @hse ?_
     exact ⟨(i+1,o.set i ((o.getD i 0-c) % 1048576),0-(o.getD i 0-c) / 1048576),
      ⟨by dsimp only;omega,by simpa using ho,hdo.set i (by omega),by dsimp only;omega,key _ (by rw [hv0];simp)⟩,by dsimp only;omega,sS⟩
 . have hip:i=k:=by omega
   subst hip;rw [yln hl] at hn;have hlt:=wg0 hdo;have hnn:=num_nonneg hdo;have hvn:=num_nonneg hv;have hvl:=wg0 hv;rw [ho] at hlt;refine hg1 @hol ?_;refine y8g (fun hc0 _=>?_) (fun hc0 _=>?_)
   . subst hc0
     have hs:settled (num u) (num v) g=g:=by
      unfold settled;rw [if_neg];simp at hn;omega
     rw [hs,hF o g ho hdo (by simpa using hn)];refine hg ?_;exact StH.refl
   . have hlow:num u-g*num v<0:=by
      have hp:(1048576:Int) ^ i<=1048576 ^ i*c:=by
       have:=Int.mul_le_mul_of_nonneg_left (show (1:Int)<=c by omega) (Int.le_of_lt (yxq i))
       rwa [Int.mul_one] at this
      omega
     have hs:settled (num u) (num v) g=g-1:=by
      unfold settled;rw [if_pos];omega
     rw [hs]
     have hgm:(g-1)*num v=g*num v-num v:=by rw [Int.sub_mul,Int.one_mul]
     refine hg1 @hol ?_
     have hbig:num o+num v=num u-(g-1)*num v+1048576 ^ i:=by
      have hc1:c=1:=by
       rcases Int.lt_or_gt_of_ne hc0 with h4 | h4
       . omega
       . rcases Int.lt_or_le 1 c with h5 | h5
         . have hp:(1048576:Int) ^ i*2<=1048576 ^ i*c:=Int.mul_le_mul_of_nonneg_left (by omega) (Int.le_of_lt (yxq i));have hvu:(1048576:Int) ^ v.length<=1048576 ^ i:=yyb hl;omega
         . omega
      subst hc1;omega
     refine wf5 [0,1,2,47,48] (fun x:Nat×List Int×Int=>[(10,.one (.dat (cI x.2.2))),(49,.one (.dat (cI x.1)))])
      (fun x=>[.arr (.ints .i64 (wout i0 i w x.2.1)) 0 T])
      (fun x=>x.1<=i/\x.2.1.length=i/\digits x.2.1/\(0<=x.2.2/\x.2.2<=1)/\num x.2.1+1048576 ^ x.1*x.2.2=num o+num (v.take x.1))
      (fun x=>i-x.1) (0,o,0)
      ⟨Nat.zero_le _,ho,hdo,by simp,by simp [num]⟩ ?_ ?_
     . refine hg ?_;exact sS
     rintro ⟨j,r,d⟩ ⟨hj,hr,hdr,hd,hn'⟩;simp only at hj hr hdr hd hn';have hrl:=x2g hik hr;refine hg1 @hrl ?_;refine y8g (fun h _=>?_) (fun h _=>?_)
     . have hjk:j<i:=by omega
       have hge:=wcn (w:=w) hik hr hjk
       have hse:=fun x=>z4q (w:=w) (x:=x) hik hr hjk
       have hri:=hdr.getD j;have hvi:=hv.getD j
       have key:∀ s:Int,s=d+r.getD j 0+v.getD j 0->num (r.set j (s % 1048576))+1048576 ^ (j+1)*(s / 1048576)=num o+num (v.take (j+1)):=fun s hs=>by
        rw [z9a (by omega) s,zb2,hs]
        grind
       refine hg2 @hrl @hge ?_;refine y8g (fun h1 _=>?_) (fun h1 _=>?_)
       . refine hg5 @xxg @xmm @hrl @hge @hse ?_
         exact ⟨(j+1,r.set j ((d+r.getD j 0+v.getD j 0) % 1048576),(d+r.getD j 0+v.getD j 0) / 1048576),
          ⟨by dsimp only;omega,by simpa using hr,hdr.set j (by omega),by dsimp only;omega,key _ rfl⟩,by dsimp only;omega,sS⟩
       . have hv0:=zg7 (l:=v) (i:=j) (by omega);refine hg5 @xxg @xmm @hrl @hge @hse ?_
         exact ⟨(j+1,r.set j ((d+r.getD j 0) % 1048576),(d+r.getD j 0) / 1048576),
          ⟨by dsimp only;omega,by simpa using hr,hdr.set j (by omega),by dsimp only;omega,key _ (by omega)⟩,by dsimp only;omega,sS⟩
     . have hip:j=i:=by omega
       subst hip;rw [yln hl] at hn';have hlt':=wg0 hdr;have hnn':=num_nonneg hdr;rw [hr] at hlt'
       have hd1:d=1:=by
        rcases Int.le_iff_eq_or_lt.1 hd.2 with h4 | h4
        . exact h4
        . have:d=0:=by omega
          subst this;omega
       subst hd1;rw [hF r (g-1) hr hdr (by omega)];refine hg1 @hrl ?_;exact StH.refl
theorem xbx {W V g:Int} (h1:(g-1)*V<=W) (h2:W<(g+1)*V) (_hV:0<V) (hW:0<=W) (hg:0<=g/\g<=1048575) :
 0<=settled W V g/\settled W V g<=1048575/\settled W V g*V<=W/\W<(settled W V g+1)*V:=by
 unfold settled
 split
 . rename_i h;refine ⟨?_,by omega,h1,by rw [show g-1+1=g by omega];exact h⟩
   rcases Int.lt_or_le 0 g with h3 | h3
   . omega
   . have:g=0:=by omega
     subst this;omega
 . exact ⟨hg.1,hg.2,by omega,h2⟩
end Go.Hp.T
