/- The proof, part Z19: Lb, Lc, Ca, Cb, Cc, Cd. -/
import Derived.Test.YtbdoipfmafbhoaaGreatDoorZ18
namespace Go.Slot
open Go Go.RowKit
theorem z3d (l:List Int) (n:Nat) (hn:2<=n) (hl:l.length=n):num l=(l.getD (n-1) 0*1048576+l.getD (n-2) 0)*1048576 ^ (n-2)+num (l.take (n-2)):=by
 obtain ⟨m,rfl⟩:∃ m,n=m+2:=⟨n-2,by omega⟩;have h1:=zb5 l (m+1);have h2:=zb5 l m;rw [y4r (by omega)] at h1;rw [h1,h2,show m+2-1=m+1 by omega,show m+2-2=m by omega,Int.pow_succ]
 grind
theorem yl6 (l:List Int) (n:Nat) (hn:2<=n) (hl:l.length=n+1) :
 num l=((l.getD n 0*1048576+l.getD (n-1) 0)*1048576+l.getD (n-2) 0)*1048576 ^ (n-2)+num (l.take (n-2)):=by
 obtain ⟨m,rfl⟩:∃ m,n=m+2:=⟨n-2,by omega⟩;have h1:=zb5 l (m+2);have h2:=zb5 l (m+1);have h3:=zb5 l m;rw [y4r (by omega)] at h1;rw [h1,h2,h3,show m+2-1=m+1 by omega,show m+2-2=m by omega,Int.pow_succ,Int.pow_succ]
 grind
section
variable {W V P t u2 v1 v2 w0 v0 g rest:Int}
theorem xgu (hP:0<P) (hW:W=(t*1048576+u2)*P+w0) (hw:w0<P) (hu:u2<=1048575) (hV:V=(v1*1048576+v2)*P+v0) (hv0:0<=v0) (hv2:0<=v2) (hg:t+1<=(g+1)*v1) (hg0:0<=g):W<(g+1)*V:=by
 have h1:(t+1)*1048576*P<=(g+1)*v1*1048576*P:=Int.mul_le_mul_of_nonneg_right (Int.mul_le_mul_of_nonneg_right hg (by decide)) (Int.le_of_lt hP);have h2:0<=(g+1)*(v2*P+v0):=Int.mul_nonneg (by omega) (Int.add_nonneg (Int.mul_nonneg hv2 (Int.le_of_lt hP)) hv0);have h3:u2*P<=1048575*P:=Int.mul_le_mul_of_nonneg_right hu (Int.le_of_lt hP)
 have e1:(g+1)*V=(g+1)*v1*1048576*P+(g+1)*(v2*P+v0):=by rw [hV];grind
 have e2:(t*1048576+u2)*P=(t+1)*1048576*P-1048576*P+u2*P:=by grind
 omega
theorem wf6 (hP:0<P) (hW:W=(t*1048576+u2)*P+w0) (hw:w0<P) (hV:V=(v1*1048576+v2)*P+v0) (hv0:0<=v0) (hg0:0<=g) (ht:t=g*v1+rest) (hc:rest*1048576+u2<g*v2):W<g*V:=by
 have h1:(t*1048576+u2+1)*P<=g*(v1*1048576+v2)*P:=by
  apply Int.mul_le_mul_of_nonneg_right _ (Int.le_of_lt hP)
  have:g*(v1*1048576+v2)=g*v1*1048576+g*v2:=by grind
  omega
 have h2:0<=g*v0:=Int.mul_nonneg hg0 hv0
 have e1:g*V=g*(v1*1048576+v2)*P+g*v0:=by rw [hV];grind
 have e2:(t*1048576+u2+1)*P=(t*1048576+u2)*P+P:=by grind
 omega
theorem vi4 (hP:0<P) (hW:W=(t*1048576+u2)*P+w0) (hw:0<=w0) (hu2:0<=u2) (hV:V=(v1*1048576+v2)*P+v0) (hv0:v0<P) (hv1:1<=v1) (hv2:0<=v2/\v2<=1048575) (hV0:0<V) (hW0:0<=W) (hg0:0<=g) (hg1:g<=1048575) (ht:t=g*v1+rest)
 (hc:1048576<=rest\/g*v2<=rest*1048576+u2):(g-1)*V<=W:=by
 by_cases h0:g=0
 . subst h0
   have:(0-1)*V = - V:=by grind
   omega
 have hg:0<=g-1:=by omega
 have hb:(g-1)*(v1*1048576+v2+1)<=t*1048576+u2:=by
  have e:(g-1)*(v1*1048576+v2+1)=g*v1*1048576+g*v2+g-v1*1048576-v2-1:=by grind
  rcases hc with hc | hc
  . have h1:g*v2<=g*1048575:=Int.mul_le_mul_of_nonneg_left hv2.2 hg0;rw [e,ht]
    have:(g*v1+rest)*1048576=g*v1*1048576+rest*1048576:=by grind
    omega
  . rw [e,ht]
    have:(g*v1+rest)*1048576=g*v1*1048576+rest*1048576:=by grind
    omega
 have h1:(g-1)*(v1*1048576+v2+1)*P<=(t*1048576+u2)*P:=Int.mul_le_mul_of_nonneg_right hb (Int.le_of_lt hP);have h2:(g-1)*v0<=(g-1)*P:=Int.mul_le_mul_of_nonneg_left (Int.le_of_lt hv0) hg
 have e1:(g-1)*V=(g-1)*(v1*1048576+v2+1)*P-(g-1)*P+(g-1)*v0:=by rw [hV];grind
 omega
end
theorem zua {l:List Int} (hd:digits l) (hn:norm l) (h:l≠[]):1048576 ^ (l.length-1)<=num l:=by
 have hp:0<l.length:=List.length_pos_iff.2 h;have h1:=zb5 l (l.length-1);rw [y4r (by omega)] at h1;have h2:=num_nonneg (hd.take (l.length-1));have h3:=hn h;have h4:=hd.getD (l.length-1);have h5:=Int.mul_le_mul_of_nonneg_left (show (1:Int)<=l.getD (l.length-1) 0 by omega) (Int.le_of_lt (wah (l.length-1)));rw [Int.mul_one] at h5;omega
theorem yri (w:List Int) (i k:Nat) (h:i+k<=w.length):num w=num (w.take i)+1048576 ^ i*num ((w.drop i).take k)+1048576 ^ (i+k)*num (w.drop (i+k)):=by
 have h1:=x81 w i;have h2:=x81 (w.drop i) k
 have e1:(w.take i).length=i:=by simp;omega
 have e2:((w.drop i).take k).length=k:=by simp;omega
 rw [e1] at h1;rw [e2,List.drop_drop] at h2;rw [h1,h2,Int.pow_add]
 grind
theorem y2m (w d:List Int) (i k:Nat) (h:i+k<=w.length) (hd:d.length=k):num (w.take i++d++w.drop (i+k))=num (w.take i)+1048576 ^ i*num d+1048576 ^ (i+k)*num (w.drop (i+k)):=by
 have e1:(w.take i).length=i:=by simp;omega
 rw [v41,v41,List.length_append,e1,hd]
theorem xe0 {a b s q w:Int} (hs:0<s) (hb:0<b) (he:a*s=b*s*q+w) (h0:0<=w) (h1:w<b*s):a / b=q/\a % b=w / s:=by
 have hbs:0<b*s:=Int.mul_pos hb hs
 have hq:a / b=q:=by
  rw [<-Int.mul_ediv_mul_of_pos_left a b hs,he,Int.add_comm,Int.add_mul_ediv_left _ _ (by omega),Int.ediv_eq_zero_of_lt h0 h1];omega
 refine ⟨hq,?_⟩;have h2:=Int.emod_add_mul_ediv a b;rw [hq] at h2
 have h3:w=(a % b)*s:=by
  have:(a % b+b*q)*s=b*s*q+w:=by rw [h2];exact he
  have h4:(a % b+b*q)*s=a % b*s+b*s*q:=by grind
  omega
 rw [h3,Int.mul_ediv_cancel _ (by omega)]
theorem wnm {l:List Int} {i n k:Nat} (h:k<n):((l.drop i).take n).getD k 0=l.getD (i+k) 0:=by
 rw [ywl h,List.getD_eq_getElem?_getD,List.getElem?_drop,List.getD_eq_getElem?_getD]
def sg (z:Int):Int:=if z<0 then -1 else if 0<z then 1 else 0
theorem ve5 {z:Int} (h:0<z):sg z=1:=by unfold sg;rw [if_neg (by omega),if_pos h]
theorem xms {z:Int} (h:z<0):sg z = -1:=by unfold sg;rw [if_pos h]
theorem y5y:sg 0=0:=rfl
theorem wuz (z:Int):(z<0/\sg z = -1)\/(z=0/\sg z=0)\/(0<z/\sg z=1):=by
 rcases Int.lt_trichotomy z 0 with h | h | h
 . exact .inl ⟨h,xms h⟩
 . exact .inr (.inl ⟨h,by rw [h];rfl⟩)
 . exact .inr (.inr ⟨h,ve5 h⟩)
def zC (z:Int):List Cell:=[.raw (.int .i64 (sg z)),.ints .i64 (dig z.natAbs)]
def xid (s:Int) (L:List Int):Prop:=digits L/\((L=[]/\s=0)\/(L≠[]/\(s=1\/s = -1)/\L.getD (L.length-1) 0≠0))
instance (s:Int) (L:List Int):Decidable (xid s L):=inferInstanceAs (Decidable (_/\_))
theorem yzg (s:Int) (L:List Int):xid s L↔∃ z:Int,s=sg z/\L=dig z.natAbs:=by
 constructor
 . rintro ⟨hd,⟨rfl,rfl⟩ | ⟨hne,hs,htop⟩⟩
   . exact ⟨0,rfl,by rw [show (0:Int).natAbs=0 from rfl,xvn]⟩
   . have hn:norm L:=fun _=>htop
     have hp:=norm.pos hd hn hne
     rcases hs with rfl | rfl
     . exact ⟨num L,(ve5 hp).symm,by rw [show (num L).natAbs=(num L).toNat by omega];exact xbo hd hn⟩
     . exact ⟨-num L,(xms (by omega)).symm,by rw [show (-num L).natAbs=(num L).toNat by omega];exact xbo hd hn⟩
 . rintro ⟨z,rfl,rfl⟩;refine ⟨zbn _,?_⟩
   rcases wuz z with ⟨h,e⟩ | ⟨h,e⟩ | ⟨h,e⟩
   . exact .inr ⟨fun h'=>by have:=xa5.1 h';omega,.inr e,w7i _ (fun h'=>by have:=xa5.1 h';omega)⟩
   . exact .inl ⟨by rw [h,show (0:Int).natAbs=0 from rfl,xvn],e⟩
   . exact .inr ⟨fun h'=>by have:=xa5.1 h';omega,.inl e,w7i _ (fun h'=>by have:=xa5.1 h';omega)⟩
theorem z6u (z:Int):xid (sg z) (dig z.natAbs):=(yzg _ _).2 ⟨z,rfl,rfl⟩
def fits (k:Nat) (z:Int):Prop:=(dig z.natAbs).length<=k
theorem ywy (z:Int):num (dig z.natAbs)=z.natAbs:=x5q _
theorem zs6 (a b:Nat):(dig (a+b)).length<=max (dig a).length (dig b).length+1:=by
 apply xst;have h1:=zrm (n:=a) (k:=max (dig a).length (dig b).length) (Nat.le_max_left _ _);have h2:=zrm (n:=b) (k:=max (dig a).length (dig b).length) (Nat.le_max_right _ _);rw [Nat.pow_succ];omega
theorem xwj (a b:Nat):(dig (a*b)).length<=(dig a).length+(dig b).length:=by
 apply xst;rw [Nat.pow_add];have h1:=zrm (n:=a) (Nat.le_refl _);have h2:=zrm (n:=b) (Nat.le_refl _);exact Nat.mul_lt_mul_of_lt_of_lt h1 h2
theorem vpr (x y:Int):(dig (x*y).natAbs).length<=(dig x.natAbs).length+(dig y.natAbs).length:=by
 rw [Int.natAbs_mul];exact xwj _ _
theorem xg3 {x y q r:Int} (h:x=y*q+r) (h0:0<=r) (h1:r<y):x / y=q/\x % y=r:=by
 rw [h,Int.add_comm];refine ⟨?_,?_⟩
 . rw [Int.add_mul_ediv_left _ _ (by omega),Int.ediv_eq_zero_of_lt h0 h1];omega
 . rw [Int.add_mul_emod_self_left,Int.emod_eq_of_lt h0 h1]
theorem zq2 {s z:Int} (h:(s=1/\0<=z)\/(s = -1/\z<=0)\/z=0):[Cell.raw (.int .i64 (if ybt (dig z.natAbs)=[] then 0 else s)),Cell.ints .i64 (ybt (dig z.natAbs))]=zC z:=by
 rw [xb7];unfold zC;by_cases h0:z=0
 . subst h0;rw [if_pos (by rw [show (0:Int).natAbs=0 from rfl,xvn])];rfl
 . rw [if_neg (fun h'=>by have:=xa5.1 h';omega)]
   rcases h with ⟨rfl,h⟩ | ⟨rfl,h⟩ | h
   . rw [ve5 (by omega)]
   . rw [xms (by omega)]
   . exact absurd h h0
end Go.Slot
namespace Go.Hp
open Go Go.RowKit Go.Slot
variable {Γ:List (Nat×List Cell)} {e:List SB}
theorem StH.cutN {J J':List SV} {η η':List SB} (ks:List Nat) (m:Nat) (hm:Nat.ble e.length m=true) (h:ye4 m (wmh ks 0 J) η=true) (hk:StH Γ e (wmh ks 0 J) (η.take m) J' η'):StH Γ e J η J' η':=
 StH.trans (StH.only ks) (StH.trans (StH.cutB m (by simpa using hm) h) hk)
end Go.Hp
namespace Go.Hp.T
open Go Go.RowKit Go.Slot Go.Hp Go.Slot.T
open Go.Proofs.Tryz (prog)
attribute [local irreducible] hide RH
set_option maxRecDepth 10000
set_option maxHeartbeats 4000000
variable {Γ:List (Nat×List Cell)}
theorem z5i (s:Int) (L:List Int) (hL:L.length<4611686018427387904):CallsD Γ prog 203 [.agg [.raw (.int .i64 s),.ints .i64 L]] (.one (.raw (.bool (decide (xid s L))))):=by
 generalize hR:decide (xid s L)=R
 have bad:¬xid s L->R=false:=fun h=>by rw [<-hR];exact decide_eq_false h
 refine CallsD.run [] Go.Proofs.Tryz.func203 rfl rfl rfl ?_;simp only [Go.Proofs.Tryz.f203];refine hgR ?_;refine xou [1,3,10,11] (fun i:Nat=>[(12,.one (.dat (cI i)))]) (fun _=>[.box [.dat (cI s),.dat (.ints .i64 L)] (some 133)])
  (fun i=>i<=L.length/\digits (L.take i)) (fun i=>L.length-i) 0 ⟨Nat.zero_le _,by simp [digits]⟩ ?_ ?_
 . refine hg ?_;exact StH.same svl rfl
 rintro i ⟨hi,hd⟩;refine hg ?_;refine w4y (fun h _=>?_) (fun h _=>?_)
 . have hi':i<L.length:=by omega
   have hget:L.getD i 0=L[i]:=by simp [hi']
   have hmem:L[i]∈L:=List.getElem_mem hi'
   have hbad:¬(0<=L.getD i 0/\L.getD i 0<=1048575)->R=false:=fun hn=>bad (fun hr=>hn (by rw [hget];exact hr.1 _ hmem))
   have hnx:0<=L.getD i 0->L.getD i 0<=1048575->digits (L.take (i+1)):=fun h1 h2 x hx=>by
    rw [List.take_add_one,List.mem_append] at hx
    rcases hx with hx | hx
    . exact hd x hx
    . simp [hi'] at hx;subst hx;rw [<-hget];omega
   clear hd hget hmem bad hR;refine hg ?_
   repeat' ((first | refine hfk ?_ ?_<;>intros | refine hik ?_)<;>refine hgS ?_)
   all_goals first
    | exact RLe.ofEq rfl
    | exact ⟨i+1,⟨by omega,hnx (by omega) (by omega)⟩,by omega,StH.same svl rfl⟩
 . have hi':i=L.length:=by omega
   have hdig:digits L:=by rw [hi',List.take_length] at hd;exact hd
   have e:((L.length:Int)-1).toNat=L.length-1:=by omega
   have hfin:R=(bif decide ((L.length:Int)=0) then decide (s=0) else (decide (s=1)||decide (s = -1))&&decide (¬L.getD (L.length-1) 0=0)):=by
    rw [<-hR];by_cases h0:L=[]
    . subst h0;show decide (xid s [])=decide (s=0);apply decide_eq_decide.2;simp [xid,digits]
    . have:L.length≠0:=fun e=>h0 (List.eq_nil_of_length_eq_zero e)
      rw [decide_eq_false (by omega:¬(L.length:Int)=0),cond_false,<-Bool.decide_or,<-Bool.decide_and];apply decide_eq_decide.2;simp only [xid];constructor
      . rintro ⟨_,⟨h4,_⟩ | ⟨_,h5,h4⟩⟩
        . exact absurd h4 h0
        . exact ⟨h5,h4⟩
      . exact fun h4=>⟨hdig,.inr ⟨h0,h4.1,h4.2⟩⟩
   rw [hfin];clear hfin hdig hd bad hR;refine hg1 @e ?_
   repeat' ((first | refine hfk ?_ ?_<;>intros | refine hik ?_)<;>refine hgS ?_)
   all_goals refine lfE ?_;first | exact trivial | rfl
theorem vb5 (L:List Int) (hL:L.length<4611686018427387904):CallsD Γ prog 202 [.one (.ints .i64 L)] (.one (.ints .i64 (L.take (zb6 L L.length)))):=by
 generalize hR:zb6 L L.length=R;refine CallsD.run [] Go.Proofs.Tryz.func202 rfl rfl rfl ?_;simp only [Go.Proofs.Tryz.f202];refine hgR ?_;refine xou [0] (fun n:Nat=>[(3,.one (.dat (cI n)))]) (fun _=>[]) (fun n=>n<=L.length/\R=zb6 L n) (fun n=>n) L.length ⟨Nat.le_refl _,hR.symm⟩ ?_ ?_
 . refine hg ?_;exact StH.same svl rfl
 clear hR;rintro n ⟨hn,ht⟩
 cases n with
 | zero=>
  have ht:R=0:=ht;refine hg ?_
  repeat' ((first | refine hfk ?_ ?_<;>intros | refine hik ?_)<;>refine hgS ?_)
  all_goals first
   | (exfalso;omega)
   | exact RLe.ofEq rfl
 | succ m=>
  have e:((m+1:Nat):Int)-1=(m:Nat):=by omega
  by_cases h2:L.getD m 0=0
  . have ht':R=zb6 L m:=by rw [ht];simp only [zb6];rw [if_pos h2]
    clear ht;refine hg1 @e ?_
    repeat' ((first | refine hfk ?_ ?_<;>intros | refine hik ?_)<;>refine hgS ?_)
    all_goals first
     | (exfalso;omega)
     | exact ⟨m,⟨by omega,by first | exact ht' | rfl⟩,by omega,StH.same svl rfl⟩
  . have ht':R=m+1:=by rw [ht];simp only [zb6];rw [if_neg h2]
    clear ht;refine hg1 @e ?_
    repeat' ((first | refine hfk ?_ ?_<;>intros | refine hik ?_)<;>refine hgS ?_)
    all_goals first
     | (exfalso;omega)
     | exact RLe.ofEq rfl
theorem zxh (L:List Int) (hL:L.length<4611686018427387904) (k:Nat) (T:Option TypeId):yev Γ prog 202 [.arr (.ints .i64 L) k T] [.one (.sl 0 1 0 L.length)] [.arr (.ints .i64 L) k T] (.one (.sl 0 1 0 (zb6 L L.length))):=by
 generalize hR:zb6 L L.length=R;refine yev.run [] Go.Proofs.Tryz.func202 rfl rfl ?_;simp only [Go.Proofs.Tryz.f202];refine hgR ?_;refine xou [0] (fun n:Nat=>[(3,.one (.dat (cI n)))]) (fun _=>[.arr (.ints .i64 L) k T]) (fun n=>n<=L.length/\R=zb6 L n) (fun n=>n) L.length ⟨Nat.le_refl _,hR.symm⟩ ?_ ?_
 . refine hg ?_;exact StH.same svl rfl
 clear hR;rintro n ⟨hn,ht⟩
 cases n with
 | zero=>
  have ht:R=0:=ht;refine hg ?_
  repeat' ((first | refine hfk ?_ ?_<;>intros | refine hik ?_)<;>refine hgS ?_)
  all_goals first
   | (exfalso;omega)
   | exact StH.w4z rfl (by kernel_rfl) rfl
 | succ m=>
  have e:((m+1:Nat):Int)-1=(m:Nat):=by omega
  by_cases h2:L.getD m 0=0
  . have ht':R=zb6 L m:=by rw [ht];simp only [zb6];rw [if_pos h2]
    clear ht;refine hg1 @e ?_
    repeat' ((first | refine hfk ?_ ?_<;>intros | refine hik ?_)<;>refine hgS ?_)
    all_goals first
     | (exfalso;omega)
     | exact ⟨m,⟨by omega,by first | exact ht' | rfl⟩,by omega,StH.same svl rfl⟩
  . have ht':R=m+1:=by rw [ht];simp only [zb6];rw [if_neg h2]
    clear ht;refine hg1 @e ?_
    repeat' ((first | refine hfk ?_ ?_<;>intros | refine hik ?_)<;>refine hgS ?_)
    all_goals first
     | (exfalso;omega)
     | exact StH.w4z rfl (by kernel_rfl) rfl
def bigC (s:Int) (L:List Int):List Cell:=[.raw (.int .i64 s),.ints .i64 L]
abbrev bigA (s:Int) (L:List Int):List Cell:=[.raw (.int .i64 s),.ints .i64 L]
theorem bigZ {s:Int}:AV.Le (.agg [cI s,.zc]) (.agg (bigA s [])):=.agg (.cons (.refl _) (.cons (.ymw _) .nil))
theorem wa8 (s:Int) (L:List Int) (hL:L.length<4611686018427387904) :
 CallsD Γ prog 165 [.one (.raw (.int .i64 s)),.one (.ints .i64 L)] (.agg (bigA (if ybt L=[] then 0 else s) (ybt L))):=by
 have ht:CallsD Γ prog 202 [.one (.ints .i64 L)] (.one (.ints .i64 (ybt L))):=vb5 L hL;generalize ybt L=M at ht;by_cases h0:M=[]
 . subst h0;rw [if_pos rfl];refine CallsD.run [] Go.Proofs.Tryz.func165 rfl rfl rfl ?_;simp only [Go.Proofs.Tryz.f165];refine hgR ?_
   repeat' ((first | refine hfk ?_ ?_<;>intros | refine hik ?_ | with_reducible first | refine wud (ht) ?_ | refine vqe (ht) ?_)<;>refine hgS ?_)
   all_goals first
    | (exfalso;omega)
    | exact .one bigZ
 . rw [if_neg h0]
   have h1:¬(M.length:Int)=0:=fun h=>h0 (List.eq_nil_of_length_eq_zero (by omega))
   refine CallsD.run [] Go.Proofs.Tryz.func165 rfl rfl rfl ?_;simp only [Go.Proofs.Tryz.f165];refine hgR ?_
   repeat' ((first | refine hfk ?_ ?_<;>intros | refine hik ?_ | with_reducible first | refine wud (ht) ?_ | refine vqe (ht) ?_)<;>refine hgS ?_)
   exact RLe.ofEq rfl
theorem xw5 (b:Bool) (s:Int) (L:List Int) :
 CallsD Γ prog 224 [.one (.raw (.bool b)),.agg (bigA s L)] (.tup [.agg (if b then bigA s L else bigA 0 []),.one (.raw (.int .i64 (if b then 0 else 1)))]):=by
 cases b with
 | true=>
  refine CallsD.run [] Go.Proofs.Tryz.func224 rfl rfl rfl ?_;simp only [Go.Proofs.Tryz.f224];refine hgR ?_
  repeat' ((first | refine hfk ?_ ?_<;>intros | refine hik ?_)<;>refine hgS ?_)
  exact RLe.ofEq rfl
 | false=>
  refine CallsD.run [] Go.Proofs.Tryz.func224 rfl rfl rfl ?_;simp only [Go.Proofs.Tryz.f224];refine hgR ?_
  repeat' ((first | refine hfk ?_ ?_<;>intros | refine hik ?_)<;>refine hgS ?_)
  exact .tup (.cons bigZ (.cons (.refl _) .nil))
end Go.Hp.T
namespace Go.Hp.T
open Go Go.RowKit Go.Slot Go.Hp Go.Slot.T
open Go.Proofs.Tryz (prog)
attribute [local irreducible] hide RH
set_option maxRecDepth 10000
set_option maxHeartbeats 4000000
variable {Γ:List (Nat×List Cell)}
theorem CallsD.yv3 {f:FuncId} {k:IntKind} {res:AV} (h:∀ b,CallsD Γ prog f [.one (.nn b)] res):CallsD Γ prog f [.one (.ints k [])] res:=by
 refine ⟨(h true).1,fun M w vs hM hg hr=>?_⟩
 match vs,hr with
 | [v],hr=>
  have hv:RdC M w v (.ints k []):=hr.1
  cases hv with
  | @ints a len cap _ _ b off hl hc ha hh=>
   subst hl;exact (h a.isNone).2 M w _ hM hg ⟨(RdC.nn:RdC M w (.slice a 0 cap) (.nn a.isNone)),trivial⟩
theorem vct {L:List Int} {n:Int} (hd:digits L) (h:num L=n):L.take (zb6 L L.length)=dig n.toNat:=zva hd h
theorem whl (a b:List Int) (ha:digits a) (hb:digits b) (la:a.length<=1099511627776) (lb:b.length<=1099511627776) :
 CallsD Γ prog 226 [.one (.ints .i64 a),.one (.ints .i64 b)] (.one (.ints .i64 (dig (num a+num b).toNat))):=by
 generalize hR:dig (num a+num b).toNat=R;refine CallsD.run [(3,[.join])] Go.Proofs.Tryz.func226 rfl rfl rfl ?_;simp only [Go.Proofs.Tryz.f226];refine hgR ?_;refine v8q [0,1] (fun p:List Int×List Int=>[(0,.one (.dat (.ints .i64 p.1))),(1,.one (.dat (.ints .i64 p.2)))]) (fun _=>[])
  (fun p=>p.2.length<=p.1.length/\digits p.1/\digits p.2/\num p.1+num p.2=num a+num b/\p.1.length<=1099511627776) ?_ ?_
 . refine hg ?_;refine w4y (fun h _=>?_) (fun h _=>?_)
   . refine hg ?_;exact ⟨(b,a),⟨by dsimp only;omega,hb,ha,Int.add_comm _ _,lb⟩,StH.same svl rfl⟩
   . refine hg ?_;exact ⟨(a,b),⟨by dsimp only;omega,ha,hb,rfl,la⟩,StH.same svl rfl⟩
 rintro ⟨p,q⟩ ⟨hle,hp,hq,hs,hl⟩;simp only at hle hp hq hs hl;refine hg ?_;refine xou [0,1,20,21] (fun x:Nat×List Int×Int=>[(5,.one (.sl 0 1 0 (p.length+1))),(6,.one (.dat (cI x.2.2))),(22,.one (.dat (cI x.1)))])
  (fun x=>[.arr (.ints .i64 x.2.1) 0 none])
  (fun x=>x.1<=p.length/\x.2.1.length=p.length+1/\digits x.2.1/\x4t x.2.1 x.1/\(0<=x.2.2/\x.2.2<=1)/\num x.2.1+1048576 ^ x.1*x.2.2=num (p.take x.1)+num (q.take x.1))
  (fun x=>p.length-x.1) (0,List.replicate ((p.length:Int)+1).toNat 0,0)
  ⟨Nat.zero_le _,by simp,digits.rep _,x4t.rep _,by simp,by simp [w5i,num]⟩ ?_ ?_
 . refine hg ?_;exact StH.same svl rfl
 rintro ⟨i,o,c⟩ ⟨hi,ho,hdo,hz,hc,hn⟩;simp only at hi ho hdo hz hc hn;refine hg1 @ho ?_;refine w4y (fun h _=>?_) (fun h _=>?_)
 . have hpi:=hp.getD i;have hqi:=hq.getD i;refine hg1 @ho ?_;have hz0:=hz i (Nat.le_refl _)
   have key:∀ s:Int,s=c+p.getD i 0+q.getD i 0->num (o.set i (s % 1048576))+1048576 ^ (i+1)*(s / 1048576)=num (p.take (i+1))+num (q.take (i+1)):=fun s hs=>by
    rw [yvz (by omega) s,zb5,zb5,hz0,hs]
    grind
   refine w4y (fun h1 _=>?_) (fun h1 _=>?_)
   . refine hg3 @wtc @wg6 @ho ?_
     exact ⟨(i+1,o.set i ((c+p.getD i 0+q.getD i 0) % 1048576),(c+p.getD i 0+q.getD i 0) / 1048576),
      ⟨by dsimp only;omega,by simpa using ho,hdo.set i (by omega),hz.set _,by dsimp only;omega,key _ rfl⟩,by dsimp only;omega,StH.same svl rfl⟩
   . refine hg3 @wtc @wg6 @ho ?_;have hq0:=xqc (l:=q) (i:=i) (by omega)
     exact ⟨(i+1,o.set i ((c+p.getD i 0) % 1048576),(c+p.getD i 0) / 1048576),
      ⟨by dsimp only;omega,by simpa using ho,hdo.set i (by omega),hz.set _,by dsimp only;omega,key _ (by omega)⟩,by dsimp only;omega,StH.same svl rfl⟩
 . refine hg1 @ho ?_
   have hip:i=p.length:=by omega
   subst hip
   have hlen:(o.set p.length c).length<4611686018427387904:=by simp;omega
   have hnum:num (o.set p.length c)=num a+num b:=by
    rw [zb0 _ _ _ (by omega),hz _ (Nat.le_refl _),<-hs];rw [y4r (Nat.le_refl _),y4r hle] at hn;rw [<-hn];grind
   have hdig:digits (o.set p.length c):=hdo.set _ (by omega);rw [show p.length+1=(o.set p.length c).length by simp [ho]];generalize o.set p.length c=r at *;have htr:=vbo r r.length;refine wud (vb5 r hlen) ?_;rw [vct hdig hnum,hR];refine hg ?_;exact RLe.ofEq rfl
theorem v5y (L:List Int) (h0:0<L.length) (hL:L.length<=17592186044416):yev Γ prog 223 [] [.one (.dat (.ints .i64 L))] [.arr (.ints .i64 L) 0 (some 3)] (.one (.sl 0 1 0 L.length)):=by
 refine yev.run [] Go.Proofs.Tryz.func223 rfl rfl ?_;simp only [Go.Proofs.Tryz.f223];refine hgR ?_
 repeat' ((first | refine hfk ?_ ?_<;>intros | refine hik ?_)<;>refine hgS ?_)
 exact StH.refl
theorem yty:CallsD Γ prog 223 [.one (.ints .i64 [])] (.one (.ints .i64 [])):=by
 refine CallsD.yv3 (fun b=>?_);refine CallsD.run [] Go.Proofs.Tryz.func223 rfl rfl rfl ?_;simp only [Go.Proofs.Tryz.f223];refine hgR ?_
 repeat' ((first | refine hfk ?_ ?_<;>intros | refine hik ?_)<;>refine hgS ?_)
 all_goals first
  | exact .one (.one (.yv3 _))
  | exact RLe.ofEq rfl
theorem v5b (a b:List Int) (ha:digits a) (hb:digits b) (la:a.length<=1099511627776) (hlen:b.length<=a.length) (hle:num b<=num a) :
 CallsD Γ prog 227 [.one (.ints .i64 a),.one (.ints .i64 b)] (.one (.ints .i64 (dig (num a-num b).toNat))):=by
 by_cases hnil:a=[]
 . subst hnil;have hb0:b=[]:=List.eq_nil_of_length_eq_zero (by simpa using hlen);subst hb0;have h0:=yty (Γ:=Γ);have h1:CallsD Γ prog 202 [.one (.ints .i64 [])] (.one (.ints .i64 [])):=vb5 [] (by decide);rw [show num []-num []=0 from rfl,show (0:Int).toNat=0 from rfl,xvn];refine CallsD.run [] Go.Proofs.Tryz.func227 rfl rfl rfl ?_;simp only [Go.Proofs.Tryz.f227];refine hgR ?_;refine wud h0 ?_;refine hg ?_;refine yz8 ?_;refine hg ?_
   repeat' ((first | refine hfk ?_ ?_<;>intros | refine hik ?_ | with_reducible first | refine wud (h1) ?_ | refine vqe (h1) ?_)<;>refine hgS ?_)
   all_goals first
    | (exfalso;simp_all;done)
    | exact RLe.ofEq rfl
 have hpos:0<a.length:=List.length_pos_iff.2 hnil;generalize hR:dig (num a-num b).toNat=R;refine CallsD.run [] Go.Proofs.Tryz.func227 rfl rfl rfl ?_;simp only [Go.Proofs.Tryz.f227];refine hgR ?_;refine zmx (v5y a hpos (by omega)) rfl ?_;refine hg ?_;refine xou [0,1,11,12] (fun x:Nat×List Int×Int=>[(5,.one (.sl 0 1 0 a.length)),(6,.one (.dat (cI x.2.2))),(13,.one (.dat (cI x.1)))])
  (fun x=>[.arr (.ints .i64 x.2.1) 0 (some 3)])
  (fun x=>x.1<=a.length/\x.2.1.length=a.length/\digits x.2.1/\(0<=x.2.2/\x.2.2<=1)/\num x.2.1-1048576 ^ x.1*x.2.2=num a-num (b.take x.1))
  (fun x=>a.length-x.1) (0,a,0)
  ⟨Nat.zero_le _,rfl,ha,by simp,by simp [num]⟩ ?_ ?_
 . refine hg ?_;exact StH.same svl rfl
 rintro ⟨i,o,c⟩ ⟨hi,ho,hdo,hc,hn⟩;simp only at hi ho hdo hc hn;refine hg1 @ho ?_;refine w4y (fun h _=>?_) (fun h _=>?_)
 . have hoi:=hdo.getD i;have hbi:=hb.getD i;refine hg1 @ho ?_
   have key:∀ s:Int,s=o.getD i 0-c-b.getD i 0->num (o.set i (s % 1048576))-1048576 ^ (i+1)*(s / 1048576 % 2)=num a-num (b.take (i+1)):=fun s hs=>by
    have h1:=yvz (o:=o) (i:=i) (by omega) s
    have h2:s / 1048576 % 2 = - (s / 1048576):=by omega
    rw [zb5,h2];rw [hs] at h1 ⊢
    grind
   refine w4y (fun h1 _=>?_) (fun h1 _=>?_)
   . conv=>simp (maxSteps:=2000000) (disch:=omega) only [go_sem,Nat.reduceAdd,Nat.reduceSub,Nat.reduceMul,Int.reduceToNat,Nat.reduceEqDiff,Nat.reduceBEq,Nat.reduceBneDiff,Nat.reduceLT,Int.reduceEq,Int.reduceLT,Int.reduceLE,Int.reduceNeg,Int.reduceAdd,Int.reduceSub,Int.reduceMul,wtc,and1,wg6,ho]
     exact ⟨(i+1,o.set i ((o.getD i 0-c-b.getD i 0) % 1048576),(o.getD i 0-c-b.getD i 0) / 1048576 % 2),
      ⟨by dsimp only;omega,by simpa using ho,hdo.set i (by omega),by dsimp only;omega,key _ rfl⟩,by dsimp only;omega,StH.same svl rfl⟩
   . conv=>simp (maxSteps:=2000000) (disch:=omega) only [go_sem,Nat.reduceAdd,Nat.reduceSub,Nat.reduceMul,Int.reduceToNat,Nat.reduceEqDiff,Nat.reduceBEq,Nat.reduceBneDiff,Nat.reduceLT,Int.reduceEq,Int.reduceLT,Int.reduceLE,Int.reduceNeg,Int.reduceAdd,Int.reduceSub,Int.reduceMul,wtc,and1,wg6,ho]
     have hb0:=xqc (l:=b) (i:=i) (by omega)
     exact ⟨(i+1,o.set i ((o.getD i 0-c) % 1048576),(o.getD i 0-c) / 1048576 % 2),
      ⟨by dsimp only;omega,by simpa using ho,hdo.set i (by omega),by dsimp only;omega,key _ (by omega)⟩,by dsimp only;omega,StH.same svl rfl⟩
 . refine hg1 @ho ?_
   have hip:i=a.length:=by omega
   subst hip;rw [y4r hlen] at hn;have h1:=yg9 hdo;have h2:=num_nonneg hdo;rw [ho] at h1
   have hc0:c=0:=by
    rcases Int.le_iff_eq_or_lt.1 hc.2 with h3 | h3
    . rw [h3] at hn;omega
    . omega
   subst hc0
   have hnum:num o=num a-num b:=by rw [<-hn];simp
   refine wud (vb5 o (by omega)) ?_;rw [vct hdo hnum,hR];refine hg ?_;exact RLe.ofEq rfl
theorem vn0 (a b:List Int) (ha:digits a) (hb:digits b) (la:a.length<=1099511627776) (lb:b.length<=1099511627776) :
 CallsD Γ prog 229 [.one (.ints .i64 a),.one (.ints .i64 b)] (.one (.ints .i64 (dig (num a*num b).toNat))):=by
 generalize hR:dig (num a*num b).toNat=R;refine CallsD.run [] Go.Proofs.Tryz.func229 rfl rfl rfl ?_;simp only [Go.Proofs.Tryz.f229];refine hgR ?_;refine xou [0,1,18,19] (fun x:Nat×List Int=>[(5,.one (.sl 0 1 0 (a.length+b.length))),(20,.one (.dat (cI x.1)))])
  (fun x=>[.arr (.ints .i64 x.2) 0 none])
  (fun x=>x.1<=a.length/\x.2.length=a.length+b.length/\digits x.2/\x4t x.2 (x.1+b.length)/\num x.2=num (a.take x.1)*num b)
  (fun x=>a.length-x.1) (0,List.replicate ((a.length:Int)+b.length).toNat 0)
  ⟨Nat.zero_le _,by simp;omega,digits.rep _,(x4t.rep _).mono (Nat.zero_le _),by simp [num,w5i]⟩ ?_ ?_
 . have e:((a.length:Int)+b.length).toNat=a.length+b.length:=by omega
   refine hg1 @e ?_;exact StH.same svl rfl
 rintro ⟨i,o⟩ ⟨hi,ho,hdo,hz,hn⟩;simp only at hi ho hdo hz hn;refine hg1 @ho ?_;refine w4y (fun h _=>?_) (fun h _=>?_)
 . refine hg1 @ho ?_;have hai:=ha.getD i;refine xou [0,1,5,6,7,18,19,20,25,26] (fun x:Nat×List Int×Int=>[(8,.one (.dat (cI x.2.2))),(27,.one (.dat (cI x.1)))])
    (fun x=>[.arr (.ints .i64 x.2.1) 0 none])
    (fun x=>x.1<=b.length/\x.2.1.length=a.length+b.length/\digits x.2.1/\x4t x.2.1 (i+b.length)/\(0<=x.2.2/\x.2.2<=1048575)/\
      num x.2.1+1048576 ^ (i+x.1)*x.2.2=num (a.take i)*num b+1048576 ^ i*(a.getD i 0*num (b.take x.1)))
    (fun x=>b.length-x.1) (0,o,0)
    ⟨Nat.zero_le _,ho,hdo,hz,by simp,by simp [num,hn]⟩ ?_ ?_
   . refine hg1 @ho ?_;exact StH.same svl rfl
   rintro ⟨k,o',c⟩ ⟨hk,ho',hdo',hz',hc,hn'⟩;simp only at hk ho' hdo' hz' hc hn';refine hg1 @ho' ?_;refine w4y (fun h1 _=>?_) (fun h1 _=>?_)
   . have hbk:=hb.getD k;have hok:=hdo'.getD (i+k);have hprod:0<=a.getD i 0*b.getD k 0/\a.getD i 0*b.getD k 0<=1048575*1048575:=⟨Int.mul_nonneg hai.1 hbk.1,Int.mul_le_mul hai.2 hbk.2 hbk.1 (by decide)⟩
     have eik:((i:Int)+k).toNat=i+k:=by omega
     conv=>simp (maxSteps:=2000000) (disch:=omega) only [go_sem,Nat.reduceAdd,Nat.reduceSub,Nat.reduceMul,Int.reduceToNat,Nat.reduceEqDiff,Nat.reduceBEq,Nat.reduceBneDiff,Nat.reduceLT,Int.reduceEq,Int.reduceLT,Int.reduceLE,Int.reduceNeg,Int.reduceAdd,Int.reduceSub,Int.reduceMul,wtc,wg6,eik,ho']
     generalize hs:o'.getD (i+k) 0+a.getD i 0*b.getD k 0+c=s at *;have h2:=yvz (o:=o') (i:=i+k) (by omega) s
     refine ⟨(k+1,o'.set (i+k) (s % 1048576),s / 1048576),
      ⟨by dsimp only;omega,by simpa using ho',hdo'.set _ (by omega),hz'.yr3 _ (by omega),by dsimp only;omega,?_⟩,by dsimp only;omega,StH.same svl rfl⟩
     dsimp only;rw [zb5,show i+(k+1)=i+k+1 by omega,h2,<-hs,Int.pow_add];rw [Int.pow_add] at hn'
     grind
   . have hkb:k=b.length:=by omega
     subst hkb
     have eib:((i:Int)+b.length).toNat=i+b.length:=by omega
     have hz0:=hz' (i+b.length) (Nat.le_refl _)
     conv=>simp (maxSteps:=2000000) (disch:=omega) only [go_sem,Nat.reduceAdd,Nat.reduceSub,Nat.reduceMul,Int.reduceToNat,Nat.reduceEqDiff,Nat.reduceBEq,Nat.reduceBneDiff,Nat.reduceLT,Int.reduceEq,Int.reduceLT,Int.reduceLE,Int.reduceNeg,Int.reduceAdd,Int.reduceSub,Int.reduceMul,eib,hz0,Int.zero_add,ho']
     refine ⟨(i+1,o'.set (i+b.length) c),⟨by dsimp only;omega,by simpa using ho',hdo'.set _ (by omega),?_,?_⟩,by dsimp only;omega,StH.same svl rfl⟩
     . exact (hz'.set c).mono (by dsimp only;omega)
     . dsimp only;rw [zb0 _ _ _ (by omega),hz0,zb5];rw [List.take_length] at hn'
       grind
 . have hia:i=a.length:=by omega
   subst hia;rw [List.take_length] at hn;refine hg1 @ho ?_;refine wud (vb5 o (by omega)) ?_;rw [vct hdo hn,hR];refine hg ?_;exact RLe.ofEq rfl
theorem vl4 (a:List Int) (d:Int) (ha:digits a) (la:a.length<=1099511627776) (hd:1<=d/\d<=1048576) :
 CallsD Γ prog 234 [.one (.ints .i64 a),.one (.raw (.int .i64 d))] (.tup [.one (.ints .i64 (dig (num a / d).toNat)),.one (.raw (.int .i64 (num a % d)))]):=by
 generalize hR:dig (num a / d).toNat=R;generalize hS:num a % d=S;refine CallsD.run [] Go.Proofs.Tryz.func234 rfl rfl rfl ?_;simp only [Go.Proofs.Tryz.f234];refine hgR ?_;refine xou [0,1] (fun x:Nat×List Int×Int=>[(6,.one (.sl 0 1 0 a.length)),(7,.one (.dat (cI x.2.2))),(8,.one (.dat (cI ((x.1:Int)-1))))])
  (fun x=>[.arr (.ints .i64 x.2.1) 0 none])
  (fun x=>x.1<=a.length/\x.2.1.length=a.length/\digits x.2.1/\(0<=x.2.2/\x.2.2<d)/\num (a.drop x.1)=d*num (x.2.1.drop x.1)+x.2.2)
  (fun x=>x.1) (a.length,List.replicate (a.length:Int).toNat 0,0)
  ⟨Nat.le_refl _,by simp,digits.rep _,by simp;omega,by simp [num]⟩ ?_ ?_
 . refine hg ?_;exact StH.same svl rfl
 rintro ⟨n,o,r⟩ ⟨hn,ho,hdo,hr,he⟩;simp only at hn ho hdo hr he;refine hg1 @ho ?_;refine w4y (fun h _=>?_) (fun h _=>?_)
 . obtain ⟨i,rfl⟩:∃ i,n=i+1:=⟨n-1,by omega⟩
   have ei:((i+1:Nat):Int)-1=(i:Nat):=by omega
   have hai:=ha.getD i
   conv=>simp (maxSteps:=2000000) (disch:=omega) only [go_sem,Nat.reduceAdd,Nat.reduceSub,Nat.reduceMul,Int.reduceToNat,Nat.reduceEqDiff,Nat.reduceBEq,Nat.reduceBneDiff,Nat.reduceLT,Int.reduceEq,Int.reduceLT,Int.reduceLE,Int.reduceNeg,Int.reduceAdd,Int.reduceSub,Int.reduceMul,ei,w5m,or20,ho]
   generalize ht:r*1048576+a.getD i 0=t at *
   have ht0:0<=t:=by omega
   have htd:t<d*1048576:=by
    have:r*1048576<=(d-1)*1048576:=Int.mul_le_mul_of_nonneg_right (by omega) (by decide)
    omega
   have hq:t.tdiv d=t / d:=Int.tdiv_eq_ediv_of_nonneg ht0;have hm:t.tmod d=t % d:=Int.tmod_eq_emod_of_nonneg ht0;have hq0:0<=t / d:=Int.ediv_nonneg ht0 (by omega);have hq1:t / d<1048576:=Int.ediv_lt_of_lt_mul (by omega) (by rw [Int.mul_comm];exact htd);have hm0:0<=t % d:=Int.emod_nonneg _ (by omega);have hm1:t % d<d:=Int.emod_lt_of_pos _ (by omega);have hdm:=Int.emod_add_mul_ediv t d;rw [hq,hm];refine hg1 @ho ?_;refine ⟨(i,o.set i (t / d),t % d),⟨by dsimp only;omega,by simpa using ho,hdo.set _ (by omega),by dsimp only;omega,?_⟩,by dsimp only;omega,StH.same svl rfl⟩;dsimp only;rw [vhr _ (by omega),ygx,he];simp only [num]
   grind
 . have h0:n=0:=by omega
   subst h0;simp only [List.drop_zero] at he
   have hq:num a / d=num o:=by
    rw [he,Int.add_comm,Int.add_mul_ediv_left _ _ (by omega),Int.ediv_eq_zero_of_lt hr.1 hr.2];omega
   have hm:num a % d=r:=by
    rw [he,Int.add_comm,Int.add_mul_emod_self_left,Int.emod_eq_of_lt hr.1 hr.2]
   refine hg1 @ho ?_;refine wud (vb5 o (by omega)) ?_;rw [vct hdo hq.symm,hR];rw [hS] at hm;subst hm;refine hg ?_;exact RLe.ofEq rfl
theorem hNaN (x:Int):CallsD Γ prog 249 [.one (.raw (.int .i64 x))] (.one (.raw (.bool false))):=by
 refine CallsD.run [] Go.Proofs.Tryz.func249 rfl rfl rfl ?_;simp only [Go.Proofs.Tryz.f249];refine hgR ?_
 repeat' ((first | refine hfk ?_ ?_<;>intros | refine hik ?_)<;>refine hgS ?_)
 all_goals refine lfE ?_;first | exact trivial | rfl
theorem hCmp (x y:Int):CallsD Γ prog 241 [.one (.raw (.int .i64 x)),.one (.raw (.int .i64 y))] (.one (.raw (.int .i64 (ord x y)))):=by
 refine CallsD.run [] Go.Proofs.Tryz.func241 rfl rfl rfl ?_;simp only [Go.Proofs.Tryz.f241];refine hgR ?_
 repeat' ((first | refine hfk ?_ ?_<;>intros | refine hik ?_ | with_reducible first | refine wud (hNaN x) ?_ | refine vqe (hNaN x) ?_ | refine wud (hNaN y) ?_ | refine vqe (hNaN y) ?_)<;>refine hgS ?_)
 all_goals refine lf1 @ord.eq_def ?_;first | exact trivial | rfl
theorem vxl (a b:List Int) (ha:digits a) (na:norm a) (hb:digits b) (nb:norm b) (la:a.length<=1099511627776) :
 CallsD Γ prog 233 [.one (.ints .i64 a),.one (.ints .i64 b)] (.one (.raw (.int .i64 (ord (num a) (num b))))):=by
 generalize hR:ord (num a) (num b)=R;refine CallsD.run [] Go.Proofs.Tryz.func233 rfl rfl rfl ?_;simp only [Go.Proofs.Tryz.f233];refine hgR ?_;refine w4y (fun h _=>?_) (fun h _=>?_)
 . have:ord (a.length:Int) b.length=R:=by
    rw [<-hR];unfold ord
    rcases Nat.lt_or_gt_of_ne (fun e:a.length=b.length=>h (by omega)) with h1 | h1
    . have:=xo2 ha na hb nb h1
      rw [if_pos (by omega),if_pos this]
    . have:=xo2 hb nb ha na h1
      rw [if_neg (by omega),if_pos (by omega),if_neg (by omega),if_pos this]
   have hc:=hCmp (Γ:=Γ) (a.length:Int) b.length;rw [this] at hc;refine hg ?_;refine wud hc ?_;refine hg ?_;exact RLe.ofEq rfl
 . have hl:a.length=b.length:=by omega
   refine hg ?_;refine xou [0,1] (fun n:Nat=>[(5,.one (.dat (cI ((n:Int)-1))))]) (fun _=>[])
    (fun n=>n<=a.length/\a.drop n=b.drop n) (fun n=>n) a.length
    ⟨Nat.le_refl _,by rw [List.drop_length,hl,List.drop_length]⟩ ?_ ?_
   . refine hg ?_;exact StH.same svl rfl
   rintro n ⟨hn,he⟩;refine hg ?_;refine w4y (fun h1 _=>?_) (fun h1 _=>?_)
   . obtain ⟨i,rfl⟩:∃ i,n=i+1:=⟨n-1,by omega⟩
     have ei:((i+1:Nat):Int)-1=(i:Nat):=by omega
     have hc:=hCmp (Γ:=Γ) (a.getD i 0) (b.getD i 0);by_cases h2:a.getD i 0=b.getD i 0
     . have hne:a.drop i=b.drop i:=by
        have e1:∀(l:List Int),i<l.length->l.drop i=l.getD i 0::l.drop (i+1):=fun l hi=>by
         rw [List.drop_eq_getElem_cons hi]
         congr 1
         simp [hi]
        rw [e1 a (by omega),e1 b (by omega),he,h2]
       clear he hR;refine hg1 @ei ?_
       repeat' ((first | refine hfk ?_ ?_<;>intros | refine hik ?_)<;>refine hgS ?_)
       all_goals first
        | (exfalso;omega)
        | exact ⟨i,⟨by omega,hne⟩,by omega,StH.same svl rfl⟩
     . have:ord (a.getD i 0) (b.getD i 0)=R:=by
        rw [<-hR];unfold ord
        rcases Int.lt_or_gt_of_ne h2 with h3 | h3
        . have:=ves ha hb hl i (by omega) he h3
          rw [if_pos h3,if_pos this]
        . have:=ves hb ha hl.symm i (by omega) he.symm h3
          rw [if_neg (by omega),if_pos (by omega),if_neg (by omega),if_pos this]
       rw [this] at hc;clear he hR this;refine hg1 @ei ?_
       repeat' ((first | refine hfk ?_ ?_<;>intros | refine hik ?_ | with_reducible first | refine wud (hc) ?_ | refine vqe (hc) ?_)<;>refine hgS ?_)
       all_goals first
        | (exfalso;omega)
        | exact RLe.ofEq rfl
   . have h0:n=0:=by omega
     subst h0
     have he:a=b:=by simpa using he
     have:R=0:=by rw [<-hR,he];simp [ord]
     subst this;clear hR;refine hg ?_;exact RLe.ofEq rfl
def settled (u v g:Int):Int:=if u<g*v then g-1 else g
def win (i k:Nat) (w:List Int):List Int:=(w.drop i).take k
def wout (i k:Nat) (w o:List Int):List Int:=w.take i++(o++w.drop (i+k))
theorem ysl {i k:Nat} {w:List Int} (h:i+k<=w.length):(win i k w).length=k:=by unfold win;rw [List.length_take,List.length_drop];omega
theorem yq7 {i k:Nat} {w o:List Int} (h:i+k<=w.length) (ho:o.length=k):(wout i k w o).length=w.length:=by
 unfold wout;simp only [List.length_append,List.length_take,List.length_drop];omega
theorem ytj {i k:Nat} {w:List Int}:wout i k w (win i k w)=w:=by
 unfold wout win;rw [<-List.drop_drop,List.take_append_drop,List.take_append_drop]
theorem wg2 {i k j:Nat} {w o:List Int} (h:i+k<=w.length) (ho:o.length=k) (hj:j<k):(wout i k w o).getD (i+j) 0=o.getD j 0:=by
 unfold wout;rw [List.getD_eq_getElem?_getD,List.getD_eq_getElem?_getD,List.getElem?_append_right (by rw [List.length_take];omega),List.length_take,show i+j-min i w.length=j by omega,List.getElem?_append_left (by omega)]
theorem wyv {i k j:Nat} {w o:List Int} {x:Int} (h:i+k<=w.length) (ho:o.length=k) (hj:j<k):(wout i k w o).set (i+j) x=wout i k w (o.set j x):=by
 unfold wout;rw [List.set_append_right _ _ (by rw [List.length_take];omega),List.length_take,show i+j-min i w.length=j by omega,List.set_append_left _ _ (by omega)]
theorem vf4 (w v:List Int) (i0 k:Nat) (g:Int) (T:Option TypeId) (hw:digits w) (hv:digits v) (hk:k<=1099511627776) (hik:i0+k<=w.length) (hl:v.length<=k) (_hw2:w.length<=1099511627776) (hgg:0<=g/\g<=1048575)
 (h1:(g-1)*num v<=num (win i0 k w)) :
 yev Γ prog 235 [.arr (.ints .i64 w) 0 T] [.one (.sl 0 1 i0 k),.one (.dat (.ints .i64 v)),.one (.dat (cI g))]
  [.arr (.ints .i64 (wout i0 k w (fixd k (num (win i0 k w)-settled (num (win i0 k w)) (num v) g*num v)))) 0 T] (.one (.dat (cI (settled (num (win i0 k w)) (num v) g)))):=by
 have hwl:=ysl hik;have hu:digits (win i0 k w):=(hw.drop i0).take k;have hs0:wout i0 k w (win i0 k w)=w:=ytj;generalize win i0 k w=u at *
 have hF:∀ o g',o.length=k->digits o->num o=num u-g'*num v->wout i0 k w (fixd k (num u-g'*num v))=wout i0 k w o:=fun o g' ho hd hn=>by
  rw [<-hn,<-zqy hd ho rfl]
 refine yev.run [] Go.Proofs.Tryz.func235 rfl rfl ?_;simp only [Go.Proofs.Tryz.f235];refine hgR ?_;refine xou [0,1,2,12,13] (fun x:Nat×List Int×Int=>[(7,.one (.dat (cI x.2.2))),(14,.one (.dat (cI x.1)))])
  (fun x=>[.arr (.ints .i64 (wout i0 k w x.2.1)) 0 T])
  (fun x=>x.1<=k/\x.2.1.length=k/\digits x.2.1/\(0<=x.2.2/\x.2.2<=1048575)/\num x.2.1-1048576 ^ x.1*x.2.2=num u-g*num (v.take x.1))
  (fun x=>k-x.1) (0,u,0)
  ⟨Nat.zero_le _,hwl,hu,by simp,by simp [num]⟩ ?_ ?_
 . refine hg ?_;exact StH.same svl (by rw [hs0])
 rintro ⟨i,o,c⟩ ⟨hi,ho,hdo,hc,hn⟩;simp only at hi ho hdo hc hn;have hol:=yq7 hik ho;refine hg1 @hol ?_;refine w4y (fun h _=>?_) (fun h _=>?_)
 . have hik2:i<k:=by omega
   have hge:=wg2 (w:=w) hik ho hik2
   have hse:=fun x=>wyv (w:=w) (x:=x) hik ho hik2
   have hoi:=hdo.getD i;have hvi:=hv.getD i;have hprod:0<=g*v.getD i 0/\g*v.getD i 0<=1048575*1048575:=⟨Int.mul_nonneg hgg.1 hvi.1,Int.mul_le_mul hgg.2 hvi.2 hvi.1 (by decide)⟩
   have key:∀ s:Int,s=o.getD i 0-c-g*v.getD i 0->num (o.set i (s % 1048576))-1048576 ^ (i+1)*(0-s / 1048576)=num u-g*num (v.take (i+1)):=fun s hs=>by
    have h1:=yvz (o:=o) (i:=i) (by omega) s;rw [zb5];rw [hs] at h1 ⊢
    grind
   refine hg2 @hol @hge ?_;refine w4y (fun h1 _=>?_) (fun h1 _=>?_)
   . refine hg2 @hol @hge ?_;generalize hp:g*v.getD i 0=p at *
     conv=>simp (maxSteps:=2000000) (disch:=omega) only [go_sem,Nat.reduceAdd,Nat.reduceSub,Nat.reduceMul,Int.reduceToNat,Nat.reduceEqDiff,Nat.reduceBEq,Nat.reduceBneDiff,Nat.reduceLT,Int.reduceEq,Int.reduceLT,Int.reduceLE,Int.reduceNeg,Int.reduceAdd,Int.reduceSub,Int.reduceMul,wtc,wg6,hol,hge,hse]
     exact ⟨(i+1,o.set i ((o.getD i 0-c-p) % 1048576),0-(o.getD i 0-c-p) / 1048576),
      ⟨by dsimp only;omega,by simpa using ho,hdo.set i (by omega),by dsimp only;omega,key _ rfl⟩,by dsimp only;omega,StH.same svl rfl⟩
   . have hv0:=xqc (l:=v) (i:=i) (by omega)
     conv=>simp (maxSteps:=2000000) (disch:=omega) only [go_sem,Nat.reduceAdd,Nat.reduceSub,Nat.reduceMul,Int.reduceToNat,Nat.reduceEqDiff,Nat.reduceBEq,Nat.reduceBneDiff,Nat.reduceLT,Int.reduceEq,Int.reduceLT,Int.reduceLE,Int.reduceNeg,Int.reduceAdd,Int.reduceSub,Int.reduceMul,wtc,wg6,hol,hge,hse]
     exact ⟨(i+1,o.set i ((o.getD i 0-c) % 1048576),0-(o.getD i 0-c) / 1048576),
      ⟨by dsimp only;omega,by simpa using ho,hdo.set i (by omega),by dsimp only;omega,key _ (by rw [hv0];simp)⟩,by dsimp only;omega,StH.same svl rfl⟩
 . have hip:i=k:=by omega
   subst hip;rw [y4r hl] at hn;have hlt:=yg9 hdo;have hnn:=num_nonneg hdo;have hvn:=num_nonneg hv;have hvl:=yg9 hv;rw [ho] at hlt;refine hg1 @hol ?_;refine w4y (fun hc0 _=>?_) (fun hc0 _=>?_)
   . subst hc0
     have hs:settled (num u) (num v) g=g:=by
      unfold settled;rw [if_neg];simp at hn;omega
     rw [hs,hF o g ho hdo (by simpa using hn)];refine hg ?_;exact StH.refl
   . have hlow:num u-g*num v<0:=by
      have hp:(1048576:Int) ^ i<=1048576 ^ i*c:=by
       have:=Int.mul_le_mul_of_nonneg_left (show (1:Int)<=c by omega) (Int.le_of_lt (wah i))
       rwa [Int.mul_one] at this
      omega
     have hs:settled (num u) (num v) g=g-1:=by
      unfold settled;rw [if_pos];omega
     rw [hs]
     have hgm:(g-1)*num v=g*num v-num v:=by rw [Int.sub_mul,Int.one_mul]
     refine hg1 @hol ?_
     have hbig:num o+num v=num u-(g-1)*num v+1048576 ^ i:=by
      have hc1:c=1:=by
       rcases Int.lt_or_gt_of_ne hc0 with h4 | h4
       . omega
       . rcases Int.lt_or_le 1 c with h5 | h5
         . have hp:(1048576:Int) ^ i*2<=1048576 ^ i*c:=Int.mul_le_mul_of_nonneg_left (by omega) (Int.le_of_lt (wah i));have hvu:(1048576:Int) ^ v.length<=1048576 ^ i:=xba hl;omega
         . omega
      subst hc1;omega
     refine xou [0,1,2,47,48] (fun x:Nat×List Int×Int=>[(10,.one (.dat (cI x.2.2))),(49,.one (.dat (cI x.1)))])
      (fun x=>[.arr (.ints .i64 (wout i0 i w x.2.1)) 0 T])
      (fun x=>x.1<=i/\x.2.1.length=i/\digits x.2.1/\(0<=x.2.2/\x.2.2<=1)/\num x.2.1+1048576 ^ x.1*x.2.2=num o+num (v.take x.1))
      (fun x=>i-x.1) (0,o,0)
      ⟨Nat.zero_le _,ho,hdo,by simp,by simp [num]⟩ ?_ ?_
     . refine hg ?_;exact StH.same svl rfl
     rintro ⟨j,r,d⟩ ⟨hj,hr,hdr,hd,hn'⟩;simp only at hj hr hdr hd hn';have hrl:=yq7 hik hr;refine hg1 @hrl ?_;refine w4y (fun h _=>?_) (fun h _=>?_)
     . have hjk:j<i:=by omega
       have hge:=wg2 (w:=w) hik hr hjk
       have hse:=fun x=>wyv (w:=w) (x:=x) hik hr hjk
       have hri:=hdr.getD j;have hvi:=hv.getD j
       have key:∀ s:Int,s=d+r.getD j 0+v.getD j 0->num (r.set j (s % 1048576))+1048576 ^ (j+1)*(s / 1048576)=num o+num (v.take (j+1)):=fun s hs=>by
        rw [yvz (by omega) s,zb5,hs]
        grind
       refine hg2 @hrl @hge ?_;refine w4y (fun h1 _=>?_) (fun h1 _=>?_)
       . conv=>simp (maxSteps:=2000000) (disch:=omega) only [go_sem,Nat.reduceAdd,Nat.reduceSub,Nat.reduceMul,Int.reduceToNat,Nat.reduceEqDiff,Nat.reduceBEq,Nat.reduceBneDiff,Nat.reduceLT,Int.reduceEq,Int.reduceLT,Int.reduceLE,Int.reduceNeg,Int.reduceAdd,Int.reduceSub,Int.reduceMul,wtc,wg6,hrl,hge,hse]
         exact ⟨(j+1,r.set j ((d+r.getD j 0+v.getD j 0) % 1048576),(d+r.getD j 0+v.getD j 0) / 1048576),
          ⟨by dsimp only;omega,by simpa using hr,hdr.set j (by omega),by dsimp only;omega,key _ rfl⟩,by dsimp only;omega,StH.same svl rfl⟩
       . have hv0:=xqc (l:=v) (i:=j) (by omega)
         conv=>simp (maxSteps:=2000000) (disch:=omega) only [go_sem,Nat.reduceAdd,Nat.reduceSub,Nat.reduceMul,Int.reduceToNat,Nat.reduceEqDiff,Nat.reduceBEq,Nat.reduceBneDiff,Nat.reduceLT,Int.reduceEq,Int.reduceLT,Int.reduceLE,Int.reduceNeg,Int.reduceAdd,Int.reduceSub,Int.reduceMul,wtc,wg6,hrl,hge,hse]
         exact ⟨(j+1,r.set j ((d+r.getD j 0) % 1048576),(d+r.getD j 0) / 1048576),
          ⟨by dsimp only;omega,by simpa using hr,hdr.set j (by omega),by dsimp only;omega,key _ (by omega)⟩,by dsimp only;omega,StH.same svl rfl⟩
     . have hip:j=i:=by omega
       subst hip;rw [y4r hl] at hn';have hlt':=yg9 hdr;have hnn':=num_nonneg hdr;rw [hr] at hlt'
       have hd1:d=1:=by
        rcases Int.le_iff_eq_or_lt.1 hd.2 with h4 | h4
        . exact h4
        . have:d=0:=by omega
          subst this;omega
       subst hd1;rw [hF r (g-1) hr hdr (by omega)];refine hg1 @hrl ?_;exact StH.refl
theorem vn3 {W V g:Int} (h1:(g-1)*V<=W) (h2:W<(g+1)*V) (_hV:0<V) (hW:0<=W) (hg:0<=g/\g<=1048575) :
 0<=settled W V g/\settled W V g<=1048575/\settled W V g*V<=W/\W<(settled W V g+1)*V:=by
 unfold settled
 split
 . rename_i h;refine ⟨?_,by omega,h1,by rw [show g-1+1=g by omega];exact h⟩
   rcases Int.lt_or_le 0 g with h3 | h3
   . omega
   . have:g=0:=by omega
     subst this;omega
 . exact ⟨hg.1,hg.2,by omega,h2⟩
end Go.Hp.T
