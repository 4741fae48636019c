/- The proof, part Y36: Qb, Qc, Qd, Qe, Qf, Qh, Qk, Ua, Ra. -/
import Derived.Test.YtjhbbadljohadaaGreatDoorY35
import Derived.Test.YtjhbbadljohadaaGreatDoorY29
import Derived.Test.YtjhbbadljohadaaGreatDoorY32
namespace Go.Hp.T
open Go Go.RowKit Go.Slot Go.Hp Go.Slot.T
open Go.Proofs.Tryz (prog)
set_option maxRecDepth 10000
set_option maxHeartbeats 4000000
variable {Γ:List (Nat×List Cell)}
def z40 (place:Nat->Option (Nat×Nat)) (cs:List HC) (ps:List (Nat×SV)):Option (List HC):=zhx place cs ps
def ym6 (place:Nat->Option (Nat×Nat)) (cs:List HC) (r:List (Nat×SV)) (a:Option (Nat×Nat)) (b:Option (List HC)):Option (List HC):=match a,b with
 | some (off,size),some us=>if us.length=size/\off+size<=cs.length then zhx place (cs.take off++us++cs.drop (off+size)) r else none
 | _,_=>none
def ylz (place:Nat->Option (Nat×Nat)) (cs:List HC) (r:List (Nat×SV)) (b:Bool):Option (List HC):=bif b then zhx place cs r else none
theorem yai {place:Nat->Option (Nat×Nat)} {cs:List HC} {ps:List (Nat×SV)}:zhx place cs ps=z40 place cs ps:=rfl
theorem z4r {place:Nat->Option (Nat×Nat)} {cs:List HC}:z40 place cs []=some cs:=rfl
theorem z2j {place:Nat->Option (Nat×Nat)} {cs:List HC} {i:Nat} {x:SV} {r:List (Nat×SV)}:z40 place cs ((i,x)::r)=ym6 place cs r (place i) (zjk x):=by
 unfold z40;rw [zhx];rfl
theorem z60 {a b:Nat}:Nat.beq a b=decide (a=b):=by rw [Bool.eq_iff_iff,decide_eq_true_iff,Nat.beq_eq]
theorem yhs {a b:Nat}:Nat.ble a b=decide (a<=b):=by rw [Bool.eq_iff_iff,decide_eq_true_iff,Nat.ble_eq]
theorem z8i {a b:Nat} (h:a<=b):Nat.ble a b=true:=Nat.ble_eq_true_of_le h
theorem yb4 {place:Nat->Option (Nat×Nat)} {cs us:List HC} {off size:Nat} {r:List (Nat×SV)}:ym6 place cs r (some (off,size)) (some us)=ylz place (cs.take off++(us++cs.drop (off+size))) r (Nat.beq us.length size&&Nat.ble (off+size) cs.length):=by
 rw [<-List.append_assoc]
 show (if us.length=size/\off+size<=cs.length then zhx place (cs.take off++us++cs.drop (off+size)) r else none)=_
 rw [z60,yhs]
 by_cases h1:us.length=size
 · by_cases h2:off+size<=cs.length
   · rw [if_pos ⟨h1,h2⟩,decide_eq_true h1,decide_eq_true h2];rfl
   · rw [if_neg (fun h=>h2 h.2),decide_eq_false h2,Bool.and_false];rfl
 · rw [if_neg (fun h=>h1 h.1),decide_eq_false h1];rfl
theorem yf3 {place:Nat->Option (Nat×Nat)} {cs:List HC} {r:List (Nat×SV)}:ylz place cs r true=z40 place cs r:=rfl
attribute [go_sem ↓ 30000] yai
attribute [go_sem] z4r z2j yb4 yf3 z60 z8i
theorem n12:((12:Nat):Int)=12:=rfl
attribute [go_sem] n12
theorem zvz (s:ByteArray):isWord s=(seq ⟨#[110,111,116]⟩ s||seq ⟨#[105,102]⟩ s||seq ⟨#[116,104,101,110]⟩ s||seq ⟨#[101,108,115,101]⟩ s||seq ⟨#[97,110,100]⟩ s||seq ⟨#[111,114]⟩ s||seq ⟨#[108,111,111,107]⟩ s||seq ⟨#[109,105,110]⟩ s||seq ⟨#[109,97,120]⟩ s||seq ⟨#[105,110,116,111]⟩ s||seq ⟨#[116,111]⟩ s||seq ⟨#[97,115]⟩ s):=by
 unfold isWord
 simp only [@ze5 s]
theorem ycj (s:ByteArray):CallsD Γ prog 46 [.one (cS s)] (.one (cB (isWord s))):=by
 rw [zvz]
 refine CallsD.run [] Go.Proofs.Tryz.func46 rfl rfl rfl ?_;simp only [Go.Proofs.Tryz.f46];refine hgR ?_
 repeat' ((first | refine hfk ?_ ?_<;>intros | refine hik ?_ | with_reducible refine zcs ?_ | with_reducible refine zfj ?_)<;>refine hgS ?_)
 all_goals (refine RLe.ofEq ?_;conv=>simp only [Bool.and_true,Bool.true_and,Bool.and_false,Bool.false_and,Bool.or_true,Bool.true_or,Bool.or_false,Bool.false_or,Bool.not_true,Bool.not_false,decide_true,decide_false,not_true_eq_false,not_false_eq_true,za2,if_true,if_false,Bool.and_self,Bool.or_self,cond_true,cond_false,List.length_map,ne_eq,Int.reduceEq,Int.reduceLT,Int.reduceLE, *]);first | exact trivial | rfl
def ztz (o:Int):Int:=bif decide (o=0)||decide (o=1) then 0 else bif decide (o=2)||decide (o=4) then 1 else bif decide (o=5) then 3 else bif decide (o=6)||decide (o=7)||decide (o=8)||decide (o=9)||decide (o=10)||decide (o=11)||decide (o=12)||decide (o=13)||decide (o=14)||decide (o=15) then 2 else -1
theorem yec (o:Int):CallsD Γ prog 99 [.one (cI o)] (.one (cI (ztz o))):=by
 refine CallsD.run [] Go.Proofs.Tryz.func99 rfl rfl rfl ?_;simp only [Go.Proofs.Tryz.f99];refine hgR ?_
 repeat' ((first | refine hfk ?_ ?_<;>intros | refine hik ?_)<;>refine hgS ?_)
 all_goals (refine RLe.ofEq ?_;conv=>simp only [Bool.and_true,Bool.true_and,Bool.and_false,Bool.false_and,Bool.or_true,Bool.true_or,Bool.or_false,Bool.false_or,Bool.not_true,Bool.not_false,decide_true,decide_false,not_true_eq_false,not_false_eq_true,za2,if_true,if_false,Bool.and_self,Bool.or_self,cond_true,cond_false,List.length_map,ne_eq,Int.reduceEq,Int.reduceLT,Int.reduceLE, *,ztz,cond_true,cond_false]);first | exact trivial | rfl
theorem ydf (s:ByteArray) (hs:s.size<=1073741824):CallsD Γ prog 98 [.one (cS s)] (.one (cB (isNamed s))):=by
 refine CallsD.run [] Go.Proofs.Tryz.func98 rfl rfl rfl ?_;simp only [Go.Proofs.Tryz.f98];refine hgR ?_
 repeat' ((first | refine hfk ?_ ?_<;>intros | refine hik ?_ | with_reducible first | refine za3 (ya5 s hs) ?_ | refine za0 (ya5 s hs) ?_ | refine za3 (ycj s) ?_ | refine za0 (ycj s) ?_)<;>refine hgS ?_)
 all_goals (refine RLe.ofEq ?_;conv=>simp only [Bool.and_true,Bool.true_and,Bool.and_false,Bool.false_and,Bool.or_true,Bool.true_or,Bool.or_false,Bool.false_or,Bool.not_true,Bool.not_false,decide_true,decide_false,not_true_eq_false,not_false_eq_true,za2,if_true,if_false,Bool.and_self,Bool.or_self,cond_true,cond_false,List.length_map,ne_eq,Int.reduceEq,Int.reduceLT,Int.reduceLE, *,isNamed]);first | exact trivial | rfl
def z2a (x:Ex):Bool:=
 bif decide (x.op=0) then zdk x.unit&&decide (0<=x.n)&&decide (x.n<=1099511627776)&&decide (x.name.size=0)&&decide ((x.args.length:Int)=0) else
 bif decide (¬x.n=0)||decide (¬x.unit.size=0) then false else
 bif decide (x.op=3) then isNamed x.name&&decide (1<=(x.args.length:Int))&&decide ((x.args.length:Int)<=6) else
 bif decide (x.op=1)||decide (x.op=2) then isNamed x.name&&decide ((x.args.length:Int)=ztz x.op) else
 decide (x.name.size=0)&&decide (0<(x.args.length:Int))&&decide ((x.args.length:Int)=ztz x.op)
theorem yef (x:Ex) (hx:x.Sm):CallsD Γ prog 65 [.agg (exC x)] (.one (cB (z2a x))):=by
 have hu:=hx.u
 have hs:=hx.s
 have hl:=hx.len
 obtain ⟨q,hq⟩:∃ q,CallsD Γ prog 97 [.one (cS x.unit)] (.tup [.one (cS q),.one (cB (zdk x.unit))]):=ym5 x.unit hu
 refine CallsD.run [] Go.Proofs.Tryz.func65 rfl rfl rfl ?_;simp only [Go.Proofs.Tryz.f65];refine hgR ?_
 repeat' ((first | refine hfk ?_ ?_<;>intros | refine hik ?_ | with_reducible first | refine za3 (hq) ?_ | refine za0 (hq) ?_ | refine za3 (ydf x.name hs) ?_ | refine za0 (ydf x.name hs) ?_ | refine za3 (yec _) ?_ | refine za0 (yec _) ?_)<;>refine hgS ?_)
 all_goals (refine RLe.ofEq ?_;conv=>simp only [Bool.and_true,Bool.true_and,Bool.and_false,Bool.false_and,Bool.or_true,Bool.true_or,Bool.or_false,Bool.false_or,Bool.not_true,Bool.not_false,decide_true,decide_false,not_true_eq_false,not_false_eq_true,za2,if_true,if_false,Bool.and_self,Bool.or_self,cond_true,cond_false,List.length_map,ne_eq,Int.reduceEq,Int.reduceLT,Int.reduceLE, *,z2a]);first | exact trivial | rfl
mutual
def Ex.rsh:Ex->Bool
 | .mk o n u s l=>z2a (.mk o n u s l)&&Ex.rshL l
def Ex.rshL:List Ex->Bool
 | []=>true
 | y::l=>Ex.rsh y&&Ex.rshL l
end
theorem Ex.zyg:∀ l:List Ex,Ex.rshL l=l.all Ex.rsh
 | []=>by rw [Ex.rshL];rfl
 | y::l=>by rw [Ex.rshL,Ex.zyg l];rfl
theorem Ex.zz8 (x:Ex):x.rsh=(z2a x&&x.args.all Ex.rsh):=by cases x;rw [Ex.rsh,Ex.zyg];rfl
theorem all_true {p:Ex->Bool} {l:List Ex} (h:∀ j,j<l.length->p (l.getD j default)=true):l.all p=true:=by
 rw [List.all_eq_true]
 intro y hy
 obtain ⟨j,hj,rfl⟩:=List.getElem_of_mem hy
 have:=h j hj
 rwa [show l.getD j default=l[j] from by simp [hj]] at this
theorem all_false {p:Ex->Bool} {l:List Ex} {j:Nat} (hj:j<l.length) (h:p (l.getD j default)=false):l.all p=false:=by
 cases e:l.all p with
 | false=>rfl
 | true=>rw [List.all_eq_true.1 e _ (zal hj)] at h;cases h
theorem z5a:∀ x:Ex,x.Sm->CallsD Γ prog 38 [.agg (exC x)] (.one (cB x.rsh)):=by
 refine Ex.ind (fun x ih hx=>?_)
 have hl:=hx.len
 refine CallsD.run [] Go.Proofs.Tryz.func38 rfl rfl rfl ?_;simp only [Go.Proofs.Tryz.f38];refine hgR ?_
 repeat' ((first | refine hfk ?_ ?_<;>intros | refine hik ?_ | with_reducible first | refine za3 (yef x hx) ?_ | refine za0 (yef x hx) ?_)<;>refine hgS ?_)
 · rename_i h0
   rw [Ex.zz8,h0];exact RLe.ofEq rfl
 · rename_i h0
   refine zcu [1] (fun n:Nat=>[(3,.one (.dat (cI n)))]) (fun _=>[.box ((exC x).map .dat) (some 24)]) (fun n=>n<=x.args.length/\∀ j,j<n->(x.args.getD j default).rsh=true) (fun n=>x.args.length-n) 0 ⟨Nat.zero_le _,fun j hj=>by omega⟩ ?_ ?_
   · refine hg ?_
     exact StH.same svl rfl
   intro n hn
   obtain ⟨hn,hj⟩:=hn
   refine hg ?_
   repeat' ((first | refine hfk ?_ ?_<;>intros | refine hik ?_ | with_reducible first | refine za3 (ih _ (zal (show n<x.args.length by omega)) (hx.arg _ (zal (show n<x.args.length by omega)))) ?_ | refine za0 (ih _ (zal (show n<x.args.length by omega)) (hx.arg _ (zal (show n<x.args.length by omega)))) ?_)<;>refine hgS ?_)
   · rename_i h1
     rw [Ex.zz8,all_false (by omega) h1,Bool.and_false];exact RLe.ofEq rfl
   · rename_i h1
     exact ⟨n+1,⟨by omega,zco hj h1⟩,by omega,StH.same svl rfl⟩
   · have e:n=x.args.length:=by omega
     subst e
     rw [Ex.zz8,h0,all_true hj];exact RLe.ofEq rfl
mutual
def Ex.rsz:Ex->Int->Int->Int
 | .mk _ _ _ _ l,n,lv=>bif decide (n<1)||decide (lv<1) then -1 else Ex.rszL l n lv 1
def Ex.rszL:List Ex->Int->Int->Int->Int
 | [],_,_,k=>k
 | y::l,n,lv,k=>bif decide (Ex.rsz y (n-k) (lv-1)<0) then -1 else Ex.rszL l n lv (k+Ex.rsz y (n-k) (lv-1))
end
theorem Ex.zuj (x:Ex) (n lv:Int):x.rsz n lv=bif decide (n<1)||decide (lv<1) then -1 else Ex.rszL x.args n lv 1:=by cases x;rw [Ex.rsz];rfl
theorem Ex.z6s:∀(l:List Ex),(∀ y∈l,∀ n lv:Int,-1<=y.rsz n lv/\(0<=y.rsz n lv->y.rsz n lv<=n))->∀ n lv k:Int,1<=k->k<=n->-1<=Ex.rszL l n lv k/\(0<=Ex.rszL l n lv k->Ex.rszL l n lv k<=n)
 | [],_,n,lv,k,h1,h2=>by rw [Ex.rszL];omega
 | y::l,h,n,lv,k,h1,h2=>by
  rw [Ex.rszL]
  have hy:=h y (by simp) (n-k) (lv-1)
  generalize y.rsz (n-k) (lv-1)=m at hy
  by_cases hm:m<0
  · rw [decide_eq_true hm];simp only [cond_true];omega
  · rw [decide_eq_false hm]
    exact Ex.z6s l (fun z hz=>h z (by simp [hz])) n lv (k+m) (by omega) (by omega)
theorem Ex.yln:∀(x:Ex) (n lv:Int),-1<=x.rsz n lv/\(0<=x.rsz n lv->x.rsz n lv<=n):=by
 refine Ex.ind (fun x ih n lv=>?_)
 rw [Ex.zuj]
 by_cases h1:n<1
 · rw [decide_eq_true h1];simp only [Bool.true_or,cond_true];omega
 · by_cases h2:lv<1
   · rw [decide_eq_true h2];simp only [Bool.or_true,cond_true];omega
   · rw [decide_eq_false h1,decide_eq_false h2]
     exact Ex.z6s x.args ih n lv 1 (by omega) (by omega)
theorem yo0:∀ x:Ex,x.Sm->∀ n lv:Int,n<=1000->lv<=1000->0<=n->0<=lv->CallsD Γ prog 27 [.agg (exC x),.one (cI n),.one (cI lv)] (.one (cI (x.rsz n lv))):=by
 refine Ex.ind (fun x ih hx n lv hn hlv hn0 hlv0=>?_)
 have hl:=hx.len
 refine CallsD.run [] Go.Proofs.Tryz.func27 rfl rfl rfl ?_;simp only [Go.Proofs.Tryz.f27];refine hgR ?_
 repeat' ((first | refine hfk ?_ ?_<;>intros | refine hik ?_)<;>refine hgS ?_)
 · rename_i h1 _ h2 _
   exact RLe.ofEq (by rw [Ex.zuj,decide_eq_true h2,Bool.or_true];rfl)
 · rename_i h1 _ h2 _
   have e0:x.rsz n lv=Ex.rszL x.args n lv 1:=by rw [Ex.zuj,decide_eq_false h1,decide_eq_false h2];rfl
   refine zcu [1,2,3] (fun p:Nat×Int=>[(7,.one (.dat (cI p.2))),(8,.one (.dat (cI p.1)))]) (fun _=>[.box ((exC x).map .dat) (some 24)]) (fun p=>p.1<=x.args.length/\1<=p.2/\p.2<=n/\Ex.rszL (x.args.drop p.1) n lv p.2=Ex.rszL x.args n lv 1) (fun p=>x.args.length-p.1) (0,1) ⟨Nat.zero_le _,by simp only;omega,by simp only;omega,rfl⟩ ?_ ?_
   · refine hg ?_
     exact StH.same svl rfl
   rintro ⟨i,k⟩ ⟨hi,hk1,hk2,hc⟩
   simp only at hi hk1 hk2 hc
   refine hg ?_
   refine zfv (fun hlt hd=>?_) (fun hlt _=>?_)
   · have hlt':i<x.args.length:=by omega
     have hy:=zal hlt'
     have hcc:=ih _ hy (hx.arg _ hy) (n-k) (lv-1) (by omega) (by omega) (by omega) (by omega)
     have hb:=Ex.yln (x.args.getD i default) (n-k) (lv-1)
     rw [zed hlt',Ex.rszL] at hc
     generalize (x.args.getD i default).rsz (n-k) (lv-1)=m at hcc hb hc
     rw [e0,<-hc]
     clear e0 hc
     conv=>simp (maxSteps:=2000000) (disch:=omega) only [go_sem,Nat.reduceAdd,Nat.reduceSub,Nat.reduceMul,Int.reduceToNat,Nat.reduceEqDiff,Nat.reduceBEq,Nat.reduceBneDiff,Nat.reduceLT,Int.reduceEq,Int.reduceLT,Int.reduceLE,Int.reduceNeg,Int.reduceAdd,Int.reduceSub,Int.reduceMul,hd]
     repeat' ((first | refine hfk ?_ ?_<;>intros | refine hik ?_ | with_reducible first | refine za3 (hcc) ?_ | refine za0 (hcc) ?_)<;>refine hgS ?_)
     · exact RLe.ofEq rfl
     · exact ⟨(i+1,k+m),⟨by simp only;omega,by simp only;omega,by simp only;omega,rfl⟩,by simp only;omega,StH.same svl rfl⟩
   · refine hg ?_
     rw [e0,<-hc,List.drop_eq_nil_of_le (by omega),Ex.rszL]
     exact RLe.ofEq rfl
 · rename_i h1 _
   exact RLe.ofEq (by rw [Ex.zuj,decide_eq_true h1];rfl)
theorem rFew (x:Ex) (hx:x.Sm) (n lv:Int) (hn:n<=1000) (hlv:lv<=1000) (hn0:0<=n) (hlv0:0<=lv):CallsD Γ prog 11 [.agg (exC x),.one (cI n),.one (cI lv)] (.one (cB (decide (0<=x.rsz n lv)))):=by
 have h:=yo0 (Γ:=Γ) x hx n lv hn hlv hn0 hlv0
 refine CallsD.run [] Go.Proofs.Tryz.func11 rfl rfl rfl ?_;simp only [Go.Proofs.Tryz.f11];refine hgR ?_
 repeat' ((first | refine hfk ?_ ?_<;>intros | refine hik ?_ | with_reducible first | refine za3 (h) ?_ | refine za0 (h) ?_)<;>refine hgS ?_)
 all_goals exact RLe.ofEq rfl
def zid (x:Ex):Bool:=decide (0<=x.rsz 200 20)&&x.rsh
theorem z7m (x:Ex) (hx:x.Sm):CallsD Γ prog 19 [.agg (exC x)] (.one (cB (zid x))):=by
 have h:=rFew (Γ:=Γ) x hx 200 20 (by decide) (by decide) (by decide) (by decide)
 refine CallsD.run [] Go.Proofs.Tryz.func19 rfl rfl rfl ?_;simp only [Go.Proofs.Tryz.f19];refine hgR ?_
 repeat' ((first | refine hfk ?_ ?_<;>intros | refine hik ?_ | with_reducible first | refine za3 (h) ?_ | refine za0 (h) ?_ | refine za3 (z5a x hx) ?_ | refine za0 (z5a x hx) ?_)<;>refine hgS ?_)
 all_goals (refine RLe.ofEq ?_;conv=>simp only [Bool.and_true,Bool.true_and,Bool.and_false,Bool.false_and,Bool.or_true,Bool.true_or,Bool.or_false,Bool.false_or,Bool.not_true,Bool.not_false,decide_true,decide_false,not_true_eq_false,not_false_eq_true,za2,if_true,if_false,Bool.and_self,Bool.or_self,cond_true,cond_false,List.length_map,ne_eq,Int.reduceEq,Int.reduceLT,Int.reduceLE, *,zid]);first | exact trivial | rfl
mutual
def Ex.short:Ex->Bool
 | .mk _ _ u s l=>Ex.zv9 l&&(decide ((s.size:Int)<=30)&&decide ((u.size:Int)<=30))
def Ex.zv9:List Ex->Bool
 | []=>true
 | y::l=>Ex.short y&&Ex.zv9 l
end
theorem Ex.zre:∀ l:List Ex,Ex.zv9 l=l.all Ex.short
 | []=>by rw [Ex.zv9];rfl
 | y::l=>by rw [Ex.zv9,Ex.zre l];rfl
theorem Ex.zyd (x:Ex):x.short=(x.args.all Ex.short&&(decide ((x.name.size:Int)<=30)&&decide ((x.unit.size:Int)<=30))):=by cases x;rw [Ex.short,Ex.zre];rfl
theorem yll:∀ x:Ex,x.Sm->CallsD Γ prog 20 [.agg (exC x)] (.one (cB x.short)):=by
 refine Ex.ind (fun x ih hx=>?_)
 have hl:=hx.len
 refine CallsD.run [] Go.Proofs.Tryz.func20 rfl rfl rfl ?_;simp only [Go.Proofs.Tryz.f20];refine hgR ?_
 refine zcu [1] (fun n:Nat=>[(3,.one (.dat (cI n)))]) (fun _=>[.box ((exC x).map .dat) (some 24)]) (fun n=>n<=x.args.length/\∀ j,j<n->(x.args.getD j default).short=true) (fun n=>x.args.length-n) 0 ⟨Nat.zero_le _,fun j hj=>by omega⟩ ?_ ?_
 · refine hg ?_
   exact StH.same svl rfl
 intro n hn
 obtain ⟨hn,hj⟩:=hn
 refine hg ?_
 repeat' ((first | refine hfk ?_ ?_<;>intros | refine hik ?_ | with_reducible first | refine za3 (ih _ (zal (show n<x.args.length by omega)) (hx.arg _ (zal (show n<x.args.length by omega)))) ?_ | refine za0 (ih _ (zal (show n<x.args.length by omega)) (hx.arg _ (zal (show n<x.args.length by omega)))) ?_)<;>refine hgS ?_)
 · rename_i h1
   rw [Ex.zyd,all_false (by omega) h1];exact RLe.ofEq rfl
 · rename_i h1
   exact ⟨n+1,⟨by omega,zco hj h1⟩,by omega,StH.same svl rfl⟩
 all_goals
  have e:n=x.args.length:=by omega
  subst e
  rw [Ex.zyd,all_true hj]
  (refine RLe.ofEq ?_;conv=>simp only [Bool.and_true,Bool.true_and,Bool.and_false,Bool.false_and,Bool.or_true,Bool.true_or,Bool.or_false,Bool.false_or,Bool.not_true,Bool.not_false,decide_true,decide_false,not_true_eq_false,not_false_eq_true,za2,if_true,if_false,Bool.and_self,Bool.or_self,cond_true,cond_false,List.length_map,ne_eq,Int.reduceEq,Int.reduceLT,Int.reduceLE, *]);first | exact trivial | rfl
end Go.Hp.T

namespace Go.Hp.T
open Go Go.RowKit Go.Slot Go.Hp Go.Slot.T
open Go.Proofs.Tryz (prog)
set_option maxRecDepth 10000
set_option maxHeartbeats 4000000
variable {Γ:List (Nat×List Cell)}
def fewX (x:Ex):Bool:=(decide (0<=x.rsz 60 12)||(decide (0<=x.rsz 220 24)&&!zid x))&&x.short
def vrS (v:Vr):Bool:=decide ((v.name.size:Int)<=30)
def tbS (t:Tb):Bool:=decide ((t.name.size:Int)<=30)&&(decide ((t.unit.size:Int)<=30)&&decide ((t.rows.length:Int)<=8))
def zwq (x:Ex) (vs:List Vr) (ms:List Tb):Bool:=fewX x&&((vs.take 11).all vrS&&((ms.take 6).all tbS&&(decide ((vs.length:Int)<=10)&&decide ((ms.length:Int)<=5))))
theorem zqf {α:Type} [Inhabited α] {p:α->Bool} {l:List α} {n i:Nat} (h1:i<n) (h2:i<l.length) (h:p (l.getD i default)=false):(l.take n).all p=false:=by
 cases e:(l.take n).all p with
 | false=>rfl
 | true=>
  have hm:l.getD i default∈l.take n:=by
   rw [show l.getD i default=l[i] from by simp [h2]]
   exact List.mem_take_iff_getElem.2 ⟨i,by omega,rfl⟩
  rw [List.all_eq_true.1 e _ hm] at h;cases h
theorem zo3 {α:Type} [Inhabited α] {p:α->Bool} {l:List α} {n i:Nat} (hj:∀ j,j<i->p (l.getD j default)=true) (h:i=n∨i=l.length):(l.take n).all p=true:=by
 rw [List.all_eq_true]
 intro y hy
 obtain ⟨j,hj2,rfl⟩:=List.mem_take_iff_getElem.1 hy
 have:=hj j (by omega)
 rwa [show l.getD j default=l[j] from by simp [show j<l.length by omega]] at this
theorem ymd (x:Ex) (hx:x.Sm) (vs:List Vr) (ms:List Tb) (hv:vs.length<=1073741824) (_hm:ms.length<=1073741824):CallsD Γ prog 8 [.agg (exC x),.one (.sl 7 (vs.map Vr.C)),.one (.sl 3 (ms.map Tb.C))] (.one (cB (zwq x vs ms))):=by
 have h1:=rFew (Γ:=Γ) x hx 60 12 (by decide) (by decide) (by decide) (by decide)
 have h2:=rFew (Γ:=Γ) x hx 220 24 (by decide) (by decide) (by decide) (by decide)
 have h3:=z7m (Γ:=Γ) x hx
 have h4:=yll (Γ:=Γ) x hx
 have hf:fewX x=((decide (0<=x.rsz 60 12)||(decide (0<=x.rsz 220 24)&&!zid x))&&x.short):=rfl
 generalize decide (0<=x.rsz 60 12)=b1 at h1 hf
 generalize decide (0<=x.rsz 220 24)=b2 at h2 hf
 generalize zid x=b3 at h3 hf
 generalize x.short=b4 at h4 hf
 generalize hR:zwq x vs ms=R
 refine CallsD.run [] Go.Proofs.Tryz.func8 rfl rfl rfl ?_;simp only [Go.Proofs.Tryz.f8];refine hgR ?_
 repeat' ((first | refine hfk ?_ ?_<;>intros | refine hik ?_ | with_reducible first | refine za3 (h1) ?_ | refine za0 (h1) ?_ | refine za3 (h2) ?_ | refine za0 (h2) ?_ | refine za3 (h3) ?_ | refine za0 (h3) ?_ | refine za3 (h4) ?_ | refine za0 (h4) ?_)<;>refine hgS ?_)
 all_goals first
  | exact RLe.ofEq (by rw [<-hR];unfold zwq;rw [hf];simp [*])
  | skip
 all_goals
  have hX:fewX x=true:=by rw [hf];simp [*]
  clear hf h1 h2 h3 h4
  refine zcu [1,2] (fun n:Nat=>[(7,.one (.dat (cI n)))]) (fun _=>[.box ((exC x).map .dat) (some 24)]) (fun n=>n<=vs.length/\n<=11/\∀ j,j<n->vrS (vs.getD j default)=true) (fun n=>vs.length-n) 0 ⟨Nat.zero_le _,Nat.zero_le _,fun j hj=>by omega⟩ ?_ ?_
  · refine hg ?_
    exact StH.same svl rfl
  intro n hn
  obtain ⟨hn,hn2,hj⟩:=hn
  refine hg ?_
  repeat' ((first | refine hfk ?_ ?_<;>intros | refine hik ?_)<;>refine hgS ?_)
  · rename_i h _
    exact RLe.ofEq (by rw [<-hR];unfold zwq;rw [zqf (i:=n) (by omega) (by omega) (by unfold vrS;exact decide_eq_false (by omega)),hX];rfl)
  · rename_i h _
    exact ⟨n+1,⟨by omega,by omega,zco hj (by unfold vrS;exact decide_eq_true (by omega))⟩,by omega,StH.same svl rfl⟩
  all_goals
   have hV:(vs.take 11).all vrS=true:=zo3 (i:=n) hj (by omega)
   clear hj
   refine zcu [1,2] (fun n:Nat=>[(8,.one (.dat (cI n)))]) (fun _=>[.box ((exC x).map .dat) (some 24)]) (fun n=>n<=ms.length/\n<=6/\∀ j,j<n->tbS (ms.getD j default)=true) (fun n=>ms.length-n) 0 ⟨Nat.zero_le _,Nat.zero_le _,fun j hj=>by omega⟩ ?_ ?_
   · refine hg ?_
     exact StH.same svl rfl
   intro k hk
   obtain ⟨hk,hk2,hj⟩:=hk
   refine hg ?_
   repeat' ((first | refine hfk ?_ ?_<;>intros | refine hik ?_)<;>refine hgS ?_)
   all_goals first
    | exact RLe.ofEq (by rw [<-hR];unfold zwq;rw [zqf (l:=ms) (i:=k) (by omega) (by omega) (by unfold tbS;first | (rw [decide_eq_false (show ¬((ms.getD k default).name.size:Int)<=30 by omega)];rfl) | (rw [decide_eq_false (show ¬((ms.getD k default).unit.size:Int)<=30 by omega),Bool.false_and,Bool.and_false]) | (rw [decide_eq_false (show ¬((ms.getD k default).rows.length:Int)<=8 by omega),Bool.and_false,Bool.and_false])),hX,hV];rfl)
    | exact RLe.ofEq (by rw [<-hR];unfold zwq;rw [zo3 (l:=ms) (i:=k) hj (by omega),hX,hV];simp [*])
    | exact ⟨k+1,⟨by omega,by omega,zco hj (by unfold tbS;rw [decide_eq_true (show ((ms.getD k default).name.size:Int)<=30 by omega),decide_eq_true (show ((ms.getD k default).unit.size:Int)<=30 by omega),decide_eq_true (show ((ms.getD k default).rows.length:Int)<=8 by omega)];rfl)⟩,by omega,StH.same svl rfl⟩
    | skip
end Go.Hp.T

namespace Go.Hp.T
open Go Go.RowKit Go.Slot Go.Hp Go.Slot.T
open Go.Proofs.Tryz (prog)
set_option maxRecDepth 10000
set_option maxHeartbeats 4000000
variable {Γ:List (Nat×List Cell)}
mutual
def Ex.has (op:Int) (nm:ByteArray):Ex->Bool
 | .mk o _ _ s l=>Ex.hasL op nm l||(decide (o=op)&&seq s nm)
def Ex.hasL (op:Int) (nm:ByteArray):List Ex->Bool
 | []=>false
 | y::l=>Ex.has op nm y||Ex.hasL op nm l
end
end Go.Hp.T

namespace Go.Hp.T
open Go Go.RowKit Go.Slot Go.Hp Go.Slot.T
open Go.Proofs.Tryz (prog)
set_option maxRecDepth 10000
set_option maxHeartbeats 4000000
variable {Γ:List (Nat×List Cell)}
theorem n0:((0:Nat):Int)=0:=rfl
end Go.Hp.T

namespace Go.Hp.T
open Go Go.RowKit Go.Slot Go.Hp Go.Slot.T
open Go.Proofs.Tryz (prog)
set_option maxRecDepth 10000
set_option maxHeartbeats 4000000
variable {Γ:List (Nat×List Cell)}
end Go.Hp.T

namespace Go.Hp.T
open Go Go.RowKit Go.Slot Go.Hp
set_option maxRecDepth 10000
theorem zyo (s:ByteArray):seq s s=true:=by rw [zod];exact decide_eq_true rfl
theorem z6c {α:Type} (d:α) (s:ByteArray):∀ V:List (ByteArray×α),zbc (updF V s d) s=some d
 | []=>by simp [updF,zbc,zyo]
 | p::V=>by
  unfold updF
  cases h:seq s p.1 with
  | true=>simp [zbc,zyo]
  | false=>simp [zbc,h,z6c d s V]
theorem zrv {α:Type} (d:α) (s:ByteArray):∀ V:List (ByteArray×α),(updF V s d).length<=V.length+1/\((updF V s d).length=V.length+1->zbc V s=none)
 | []=>⟨by simp [updF],fun _=>rfl⟩
 | p::V=>by
  unfold updF
  cases h:seq s p.1 with
  | true=>exact ⟨by simp,fun h2=>by simp at h2⟩
  | false=>
   have:=zrv d s V
   exact ⟨by simp;omega,fun h2=>by simp at h2;simp [zbc,h,this.2 h2]⟩
theorem yac {x:Ex} (h:zd5 x=true) (ho:x.op=1):x.args=[]:=by
 unfold zd5 at h
 rw [ho] at h
 simp at h
 exact h.2.2
end Go.Hp.T

namespace Go.Hp.T
open Go Go.RowKit Go.Slot Go.Hp
set_option maxRecDepth 10000
theorem z3a (V T : List (ByteArray × Dm)) : ∀ (l : List Ex) (e : Int), Ex.tyL V T l = .inl e → e ≠ 0
 | [],e,h=>by rw [Ex.tyL] at h;cases h
 | z::l,e,h=>by
  rw [Ex.tyL] at h
  cases hz:z.ty V T with
  | mk t f=>
   rw [hz] at h
   simp only at h
   by_cases hf:f=0
   · subst hf
     cases hl:Ex.tyL V T l with
     | inl g=>
      rw [hl] at h
      have:g=e:=by simpa using h
      subst this
      exact z3a V T l g hl
     | inr ts=>rw [hl] at h;simp at h
   · have:f=e:=by simpa [hf] using h
     rw [<-this];exact hf
theorem z43 (V T : List (ByteArray × Dm)) : ∀ (l : List Ex) (ts : List Ty), Ex.tyL V T l = .inr ts → ∀ y ∈ l, (y.ty V T).2 = 0
 | [],_,_,y,hy=>by cases hy
 | z::l,ts,h,y,hy=>by
  rw [Ex.tyL] at h
  cases hz:z.ty V T with
  | mk t f=>
   rw [hz] at h
   simp only at h
   by_cases hf:f=0
   · subst hf
     rcases List.mem_cons.1 hy with rfl | hy
     · rw [hz]
     · cases hl:Ex.tyL V T l with
       | inl g=>rw [hl] at h;simp at h
       | inr us=>exact z43 V T l us hl y hy
   · simp [hf] at h
def rG {α:Type} (bad:α->Bool) (nm:α->ByteArray) (vl:α->Dm) (V:List (ByteArray×Dm)):List α->Option (List (ByteArray×Dm))
 | []=>some V
 | v::l=>bif bad v then none else rG bad nm vl (updF V (nm v) (vl v)) l
theorem yi0:∀(vs:List Vr) (V:List (ByteArray×Dm)),rV V vs=rG (fun v:Vr=>!isName v.name||isWord v.name||!zaw v.d) Vr.name Vr.d V vs
 | [],V=>by rw [rV,rG]
 | v::vs,V=>by rw [rV,rG,yi0 vs]
def tbad (V:List (ByteArray×Dm)) (t:Tb):Bool:=(zbc V t.name).isSome||decide (¬(zaz t.unit).2=0)||!zca (fun s=>(zaz s).2) t||isWord t.name
def tval (t:Tb):Dm:=dmO (zaz t.unit).1
theorem yib (V:List (ByteArray×Dm)):∀(ms:List Tb) (T:List (ByteArray×Dm)),rT V T ms=rG (tbad V) Tb.name tval T ms
 | [],T=>by rw [rT,rG]
 | t::ms,T=>by rw [rT,rG,yib V ms];rfl
section
variable {α:Type} {bad:α->Bool} {nm:α->ByteArray} {vl:α->Dm}
theorem ydy:∀(l:List α) (V W:List (ByteArray×Dm)),rG bad nm vl V l=some W->W.length<=V.length+l.length
 | [],V,W,h=>by rw [rG] at h;cases h;simp
 | v::l,V,W,h=>by
  rw [rG] at h
  cases hb:bad v with
  | true=>rw [hb] at h;cases h
  | false=>
   rw [hb] at h
   have h1:=ydy l _ W h
   have h2:=(zrv (vl v) (nm v) V).1
   simp only [List.length_cons]
   omega
theorem zsx {β:Type} (d:β) (s:ByteArray):∀ V:List (ByteArray×β),zbc V s=none->updF V s d=V++[(s,d)]
 | [],_=>rfl
 | p::V,h=>by
  unfold zbc at h
  unfold updF
  cases hs:seq s p.1 with
  | true=>rw [hs] at h;cases h
  | false=>
   rw [hs,cond_false] at h
   rw [cond_false,zsx d s V h];rfl
theorem zko {β:Type} (s:ByteArray):∀ A B:List (ByteArray×β),zbc (A++B) s=(zbc A s).or (zbc B s)
 | [],B=>rfl
 | p::A,B=>by
  show (bif seq s p.1 then some p.2 else zbc (A++B) s)=(bif seq s p.1 then some p.2 else zbc A s).or (zbc B s)
  cases seq s p.1 with
  | true=>rfl
  | false=>exact zko s A B
theorem zpp (s:ByteArray):∀ l:List α,(∀ v∈l,seq s (nm v)=false)->zbc (l.map fun v=>(nm v,vl v)) s=none
 | [],_=>rfl
 | v::l,h=>by
  rw [List.map_cons,zbc,h v (by simp),cond_false]
  exact zpp s l (fun w hw=>h w (by simp [hw]))
theorem zos {s:ByteArray}:∀{l:List α},zbc (l.map fun v=>(nm v,vl v)) s=none->∀ v∈l,seq s (nm v)=false
 | [],_,v,hv=>by cases hv
 | w::l,h,v,hv=>by
  rw [List.map_cons,zbc] at h
  cases hs:seq s (nm w) with
  | true=>rw [hs] at h;cases h
  | false=>
   rw [hs,cond_false] at h
   rcases List.mem_cons.1 hv with rfl | hv
   · exact hs
   · exact zos h v hv
theorem zwt:∀(l:List α) (V W:List (ByteArray×Dm)),rG bad nm vl V l=some W->W.length=V.length+l.length->
 W=V++(l.map fun v=>(nm v,vl v))/\(∀ v∈l,bad v=false/\zbc V (nm v)=none)/\l.Pairwise (fun a b=>seq (nm b) (nm a)=false)
 | [],V,W,h,_=>by rw [rG] at h;cases h;exact ⟨by simp,⟨fun v hv=>(by cases hv),List.Pairwise.nil⟩⟩
 | v::l,V,W,h,hlen=>by
  rw [rG] at h
  cases hb:bad v with
  | true=>rw [hb] at h;cases h
  | false=>
   rw [hb,cond_false] at h
   have h1:=ydy l _ W h
   have h2:=zrv (vl v) (nm v) V
   simp only [List.length_cons] at hlen
   have h3:(updF V (nm v) (vl v)).length=V.length+1:=by omega
   have hn:=h2.2 h3
   obtain ⟨h4,h5,h6⟩:=zwt l _ W h (by omega)
   rw [zsx _ _ _ hn] at h4 h5
   refine ⟨by rw [h4];simp,fun u hu=>?_,.cons (fun u hu=>?_) h6⟩
   · rcases List.mem_cons.1 hu with rfl | hu
     · exact ⟨hb,hn⟩
     · have:=h5 u hu
       refine ⟨this.1,?_⟩
       have h7:=this.2
       rw [zko] at h7
       cases hl:zbc V (nm u) with
       | none=>rfl
       | some d=>rw [hl] at h7;cases h7
   · have h7:=(h5 u hu).2
     rw [zko] at h7
     cases hs:seq (nm u) (nm v) with
     | false=>rfl
     | true=>
      cases hl:zbc V (nm u) with
      | none=>
       rw [hl,zbc,hs] at h7
       cases h7
      | some d=>rw [hl] at h7;cases h7
theorem yi1:∀(l:List α) (V:List (ByteArray×Dm)),(∀ v∈l,bad v=false/\zbc V (nm v)=none)->l.Pairwise (fun a b=>seq (nm b) (nm a)=false)->rG bad nm vl V l=some (V++(l.map fun v=>(nm v,vl v)))
 | [],V,_,_=>by rw [rG];simp
 | v::l,V,h,hp=>by
  have hv:=h v (by simp)
  rw [rG,hv.1,cond_false,zsx _ _ _ hv.2]
  rw [List.pairwise_cons] at hp
  rw [yi1 l _ (fun u hu=>⟨(h u (by simp [hu])).1,by rw [zko,(h u (by simp [hu])).2,zbc,hp.1 u hu];rfl⟩) hp.2]
  simp
end
structure zmz (vs:List Vr) (ms:List Tb):Prop where
 v:∀ v∈vs,(!isName v.name||isWord v.name||!zaw v.d)=false
 vp:vs.Pairwise (fun a b=>seq b.name a.name=false)
 t:∀ t∈ms,tbad (vs.map fun v=>(v.name,v.d)) t=false
 tp:ms.Pairwise (fun a b=>seq b.name a.name=false)
theorem z1u {vs:List Vr} {ms:List Tb} {p:List (ByteArray×Dm)×List (ByteArray×Dm)} (h:zh7 vs ms=some p):zmz vs ms/\p=(vs.map (fun v=>(v.name,v.d)),ms.map (fun t=>(t.name,tval t))):=by
 unfold zh7 at h
 cases hV:rV [] vs with
 | none=>rw [hV] at h;cases h
 | some W=>
  rw [hV] at h
  simp only at h
  cases hT:rT W [] ms with
  | none=>rw [hT] at h;cases h
  | some X=>
   rw [hT] at h
   simp only at h
   cases hd:(decide ((W.length:Int)=vs.length)&&decide ((X.length:Int)=ms.length)) with
   | false=>rw [hd] at h;cases h
   | true=>
    rw [hd] at h
    cases h
    rw [Bool.and_eq_true,decide_eq_true_iff,decide_eq_true_iff] at hd
    rw [yi0] at hV
    rw [yib] at hT
    obtain ⟨a1,a2,a3⟩:=zwt _ _ _ hV (by simp;omega)
    obtain ⟨b1,b2,b3⟩:=zwt _ _ _ hT (by simp;omega)
    rw [List.nil_append] at a1 b1
    subst a1;subst b1
    exact ⟨⟨fun v hv=>(a2 v hv).1,a3,fun t ht=>(b2 t ht).1,b3⟩,rfl⟩
theorem yau {vs:List Vr} {ms:List Tb} (h:zmz vs ms):zh7 vs ms=some (vs.map (fun v=>(v.name,v.d)),ms.map (fun t=>(t.name,tval t))):=by
 unfold zh7
 rw [yi0,yi1 _ _ (fun v hv=>⟨h.v v hv,rfl⟩) h.vp]
 simp only [List.nil_append]
 rw [yib,yi1 _ _ (fun t ht=>⟨h.t t ht,rfl⟩) h.tp]
 simp only [List.nil_append,List.length_map,decide_true,Bool.and_self,cond_true]
theorem z3l {vs vs':List Vr} {t:Tb} (hsub:∀ v∈vs',v∈vs) (h:tbad (vs.map fun v=>(v.name,v.d)) t=false):tbad (vs'.map fun v=>(v.name,v.d)) t=false:=by
 unfold tbad at h ⊢
 simp only [Bool.or_eq_false_iff] at h ⊢
 refine ⟨⟨⟨?_,h.1.1.2⟩,h.1.2⟩,h.2⟩
 have h1:zbc (vs.map fun v=>(v.name,v.d)) t.name=none:=by
  cases hl:zbc (vs.map fun v=>(v.name,v.d)) t.name with
  | none=>rfl
  | some d=>rw [hl] at h;exact absurd h.1.1.1 (by simp)
 rw [zpp t.name vs' (fun v hv=>zos h1 v (hsub v hv))]
 rfl
theorem zmz.less {vs vs':List Vr} {ms ms':List Tb} (h:zmz vs ms) (hv:vs'.Sublist vs) (ht:ms'.Sublist ms):zmz vs' ms':=
 ⟨fun v hv'=>h.v v (hv.subset hv'),h.vp.sublist hv,fun t ht'=>z3l (fun _ hv'=>hv.subset hv') (h.t t (ht.subset ht')),h.tp.sublist ht⟩
theorem yk0 {x:Ex} {vs:List Vr} {ms:List Tb} (hb:(!zh4 x||x.zci)=false) (h:zmz vs ms):ofF x vs ms=x.ty (vs.map fun v=>(v.name,v.d)) (ms.map fun t=>(t.name,tval t)):=by
 unfold ofF
 rw [hb,cond_false,yau h]
end Go.Hp.T

namespace Go.Hp.T
open Go Go.RowKit Go.Slot Go.Hp Go.Slot.T
open Go.Proofs.Tryz (prog)
set_option maxRecDepth 10000
set_option maxHeartbeats 4000000
variable {Γ:List (Nat×List Cell)}
theorem zk4 (x:Dm):CallsD Γ prog 47 [.agg (dmC x)] (.one (cB (zaw x))):=by
 refine CallsD.run [] Go.Proofs.Tryz.func47 rfl rfl rfl ?_;simp only [Go.Proofs.Tryz.f47];refine hgR ?_
 repeat' ((first | refine hfk ?_ ?_<;>intros | refine hik ?_ | with_reducible refine zcs ?_ | with_reducible refine zfj ?_)<;>refine hgS ?_)
 all_goals (refine RLe.ofEq ?_;conv=>simp only [Bool.and_true,Bool.true_and,Bool.and_false,Bool.false_and,Bool.or_true,Bool.true_or,Bool.or_false,Bool.false_or,Bool.not_true,Bool.not_false,decide_true,decide_false,not_true_eq_false,not_false_eq_true,za2,if_true,if_false,Bool.and_self,Bool.or_self,cond_true,cond_false,List.length_map,ne_eq,Int.reduceEq,Int.reduceLT,Int.reduceLE, *,zaw,bad9]);first | exact trivial | rfl
def Dm.neg (x:Dm):Dm:=⟨0-x.a,0-x.b,0-x.c,0-x.d,0-x.e,0-x.f⟩
theorem z47 (x:Dm) (hx:zaw x=true):CallsD Γ prog 82 [.agg (dmC x)] (.agg (dmC x.neg)):=by
 have h1:=zfc hx
 refine CallsD.run [] Go.Proofs.Tryz.func82 rfl rfl rfl ?_;simp only [Go.Proofs.Tryz.f82];refine hgR ?_
 repeat' ((first | refine hfk ?_ ?_<;>intros | refine hik ?_ | with_reducible refine zcs ?_ | with_reducible refine zfj ?_)<;>refine hgS ?_)
 all_goals exact RLe.ofEq rfl
theorem yk8 (x y:Dm):CallsD Γ prog 83 [.agg (dmC x),.agg (dmC y)] (.tup [.agg (dmC (dMul x y).1),.one (cI (dMul x y).2)]):=by
 cases hx:zaw x with
 | false=>
  have e:dMul x y=(Dm.zero,1):=by unfold dMul;rw [hx];rfl
  rw [e]
  have c1:=zk4 (Γ:=Γ) x
  rw [hx] at c1
  refine CallsD.run [] Go.Proofs.Tryz.func83 rfl rfl rfl ?_;simp only [Go.Proofs.Tryz.f83];refine hgR ?_
  repeat' ((first | refine hfk ?_ ?_<;>intros | refine hik ?_ | with_reducible first | refine za3 (c1) ?_ | refine za0 (c1) ?_)<;>refine hgS ?_)
  all_goals exact RLe.ofEq rfl
 | true=>
  have c1:=zk4 (Γ:=Γ) x
  have c2:=zk4 (Γ:=Γ) y
  rw [hx] at c1
  cases hy:zaw y with
  | false=>
   have e:dMul x y=(Dm.zero,1):=by unfold dMul;rw [hx,hy];rfl
   rw [e]
   rw [hy] at c2
   refine CallsD.run [] Go.Proofs.Tryz.func83 rfl rfl rfl ?_;simp only [Go.Proofs.Tryz.f83];refine hgR ?_
   repeat' ((first | refine hfk ?_ ?_<;>intros | refine hik ?_ | with_reducible first | refine za3 (c1) ?_ | refine za0 (c1) ?_ | refine za3 (c2) ?_ | refine za0 (c2) ?_)<;>refine hgS ?_)
   all_goals exact RLe.ofEq rfl
  | true=>
   have h1:=zfc hx
   have h2:=zfc hy
   have e:dMul x y=zq9 (x.add y):=by unfold dMul;rw [hx,hy];rfl
   rw [e]
   rw [hy] at c2
   have c3:CallsD Γ prog 47 [.agg [cI (x.a+y.a),cI (x.b+y.b),cI (x.c+y.c),cI (x.d+y.d),cI (x.e+y.e),cI (x.f+y.f)]] (.one (cB (zaw (x.add y)))):=zk4 (Γ:=Γ) (x.add y)
   unfold zq9
   generalize zaw (x.add y)=b at c3
   refine CallsD.run [] Go.Proofs.Tryz.func83 rfl rfl rfl ?_;simp only [Go.Proofs.Tryz.f83];refine hgR ?_
   repeat' ((first | refine hfk ?_ ?_<;>intros | refine hik ?_ | with_reducible refine zcs ?_ | with_reducible refine zfj ?_ | with_reducible first | refine za3 (c1) ?_ | refine za0 (c1) ?_ | refine za3 (c2) ?_ | refine za0 (c2) ?_ | refine za3 (c3) ?_ | refine za0 (c3) ?_)<;>refine hgS ?_)
   all_goals subst_vars
   all_goals exact RLe.ofEq rfl
theorem z4z (vs:List Vr) (s:ByteArray) (hv:vs.length<=1073741824):CallsD Γ prog 48 [.one (.sl 7 (vs.map Vr.C)),.one (cS s)] (.one (cI (idxF (fun v:Vr=>seq v.name s) vs))):=by
 generalize hR:idxF (fun v:Vr=>seq v.name s) vs=R
 refine CallsD.run [] Go.Proofs.Tryz.func48 rfl rfl rfl ?_;simp only [Go.Proofs.Tryz.f48];refine hgR ?_
 refine zcu [0,1] (fun n:Nat=>[(5,.one (.dat (cI n)))]) (fun _=>[]) (fun n=>n<=vs.length/\∀ j,j<n->seq (vs.getD j default).name s=false) (fun n=>vs.length-n) 0 ⟨Nat.zero_le _,fun j h=>by omega⟩ ?_ ?_
 · refine hg ?_
   exact StH.same svl rfl
 intro n hn
 obtain ⟨h1,h2⟩:=hn
 obtain ⟨h3,h4⟩:=zjq (p:=fun v:Vr=>seq v.name s) h1 h2
 refine hg ?_
 repeat' ((first | refine hfk ?_ ?_<;>intros | refine hik ?_)<;>refine hgS ?_)
 · exact RLe.ofEq (by rw [<-hR,h4 (by omega) (by assumption)])
 · exact ⟨n+1,⟨by omega,zco h2 (by assumption)⟩,by omega,StH.same svl rfl⟩
 · exact RLe.ofEq (by rw [<-hR,h3 (by omega)])
theorem zyb (ms:List Tb) (s:ByteArray) (hm:ms.length<=1073741824):CallsD Γ prog 50 [.one (.sl 3 (ms.map Tb.C)),.one (cS s)] (.one (cI (idxF (fun t:Tb=>seq t.name s) ms))):=by
 generalize hR:idxF (fun t:Tb=>seq t.name s) ms=R
 refine CallsD.run [] Go.Proofs.Tryz.func50 rfl rfl rfl ?_;simp only [Go.Proofs.Tryz.f50];refine hgR ?_
 refine zcu [0,1] (fun n:Nat=>[(5,.one (.dat (cI n)))]) (fun _=>[]) (fun n=>n<=ms.length/\∀ j,j<n->seq (ms.getD j default).name s=false) (fun n=>ms.length-n) 0 ⟨Nat.zero_le _,fun j h=>by omega⟩ ?_ ?_
 · refine hg ?_
   exact StH.same svl rfl
 intro n hn
 obtain ⟨h1,h2⟩:=hn
 obtain ⟨h3,h4⟩:=zjq (p:=fun t:Tb=>seq t.name s) h1 h2
 refine hg ?_
 repeat' ((first | refine hfk ?_ ?_<;>intros | refine hik ?_)<;>refine hgS ?_)
 · exact RLe.ofEq (by rw [<-hR,h4 (by omega) (by assumption)])
 · exact ⟨n+1,⟨by omega,zco h2 (by assumption)⟩,by omega,StH.same svl rfl⟩
 · exact RLe.ofEq (by rw [<-hR,h3 (by omega)])
theorem z7r {p:Ex->Bool} {l:List Ex} {j:Nat} (hj:j<l.length) (h:p (l.getD j default)=true):l.any p=true:=List.any_eq_true.2 ⟨_,zal hj,h⟩
theorem z2h {p:Ex->Bool} {l:List Ex} (h:∀ j,j<l.length->p (l.getD j default)=false):l.any p=false:=by
 rw [List.any_eq_false]
 intro y hy
 obtain ⟨j,hj,rfl⟩:=List.getElem_of_mem hy
 have:=h j hj
 rw [show l.getD j default=l[j] from by simp [hj]] at this
 simp [this]
theorem yal:∀ x:Ex,x.Sm->CallsD Γ prog 24 [.agg (exC x)] (.one (cB x.zci)):=by
 refine Ex.ind (fun x ih hx=>?_)
 have hl:=hx.len
 generalize hR:x.zci=R
 refine CallsD.run [] Go.Proofs.Tryz.func24 rfl rfl rfl ?_;simp only [Go.Proofs.Tryz.f24];refine hgR ?_
 refine zcu [1] (fun n:Nat=>[(3,.one (.dat (cI n)))]) (fun _=>[.box ((exC x).map .dat) (some 24)]) (fun n=>n<=x.args.length/\∀ j,j<n->(x.args.getD j default).zci=false) (fun n=>x.args.length-n) 0 ⟨Nat.zero_le _,fun j hj=>by omega⟩ ?_ ?_
 · refine hg ?_
   exact StH.same svl rfl
 intro n hn
 obtain ⟨hn,hj⟩:=hn
 refine hg ?_
 repeat' ((first | refine hfk ?_ ?_<;>intros | refine hik ?_ | with_reducible first | refine za3 (ih _ (zal (show n<x.args.length by omega)) (hx.arg _ (zal (show n<x.args.length by omega)))) ?_ | refine za0 (ih _ (zal (show n<x.args.length by omega)) (hx.arg _ (zal (show n<x.args.length by omega)))) ?_)<;>refine hgS ?_)
 · rename_i h
   exact RLe.ofEq (by rw [<-hR,Ex.zgm,z7r (by omega) h,Bool.or_true])
 · rename_i h
   exact ⟨n+1,⟨by omega,zco hj h⟩,by omega,StH.same svl rfl⟩
 all_goals
  have e:n=x.args.length:=by omega
  subst e
  exact RLe.ofEq (by rw [<-hR,Ex.zgm,z2h hj,Bool.or_false])
def zia (a b:Ty):Int:=bif a.t||b.t then 13 else bif !decide (a.d=b.d) then 14 else 0
theorem zra (a b:Ty):CallsD Γ prog 81 [.agg (tyC a),.agg (tyC b)] (.one (cI (zia a b))):=by
 refine CallsD.run [] Go.Proofs.Tryz.func81 rfl rfl rfl ?_;simp only [Go.Proofs.Tryz.f81];refine hgR ?_
 repeat' ((first | refine hfk ?_ ?_<;>intros | refine hik ?_)<;>refine hgS ?_)
 all_goals (refine RLe.ofEq ?_;conv=>simp only [Bool.and_true,Bool.true_and,Bool.and_false,Bool.false_and,Bool.or_true,Bool.true_or,Bool.or_false,Bool.false_or,Bool.not_true,Bool.not_false,decide_true,decide_false,not_true_eq_false,not_false_eq_true,za2,if_true,if_false,Bool.and_self,Bool.or_self,cond_true,cond_false,List.length_map,ne_eq,Int.reduceEq,Int.reduceLT,Int.reduceLE, *,zia]);first | exact trivial | rfl
theorem yl5 (n:Int):CallsD Γ prog 80 [.one (cI n)] (.one (cB (inT n))):=by
 refine CallsD.run [] Go.Proofs.Tryz.func80 rfl rfl rfl ?_;simp only [Go.Proofs.Tryz.f80];refine hgR ?_
 repeat' ((first | refine hfk ?_ ?_<;>intros | refine hik ?_)<;>refine hgS ?_)
 all_goals (refine RLe.ofEq ?_;conv=>simp only [Bool.and_true,Bool.true_and,Bool.and_false,Bool.false_and,Bool.or_true,Bool.true_or,Bool.or_false,Bool.false_or,Bool.not_true,Bool.not_false,decide_true,decide_false,not_true_eq_false,not_false_eq_true,za2,if_true,if_false,Bool.and_self,Bool.or_self,cond_true,cond_false,List.length_map,ne_eq,Int.reduceEq,Int.reduceLT,Int.reduceLE, *,inT]);first | exact trivial | rfl
end Go.Hp.T

namespace Go.Slot.T
open Go Go.RowKit Go.Slot
open Go.Proofs.Tryz (prog)
set_option maxRecDepth 10000
set_option maxHeartbeats 4000000
theorem zir (L:List Int) (i:Nat) (_hL:L.length<=1099511627776) (hi:(i:Int)<=1099511627776) :
 za1 prog 177 [.one (.ints .i64 L),.one (.raw (.int .i64 i))] (.one (.raw (.int .i64 (L.getD i 0)))):=by
 refine za1.run [] Go.Proofs.Tryz.func177 rfl rfl ?_;conv=>simp (maxSteps:=2000000) (disch:=omega) only [go_sem,Nat.reduceAdd,Nat.reduceSub,Nat.reduceMul,Int.reduceToNat,Nat.reduceEqDiff,Nat.reduceBEq,Nat.reduceBneDiff,Go.Proofs.Tryz.f177,List.replicate]
 refine zap (fun h=>?_) (fun h=>?_)
 · refine rg ?_
   exact ⟨_,rfl,.one (.refl _)⟩
 · refine rg ?_
   exact ⟨_,rfl,by rw [zi4 (by omega)];exact .one (.refl _)⟩
theorem zx3 (L:List Int) (hL:L.length<=1099511627776):za1 prog 176 [.one (.ints .i64 L)] (.one (.ints .i64 (zep L))):=by
 refine za1.run [] Go.Proofs.Tryz.func176 rfl rfl ?_;conv=>simp (maxSteps:=2000000) (disch:=omega) only [go_sem,Nat.reduceAdd,Nat.reduceSub,Nat.reduceMul,Int.reduceToNat,Nat.reduceEqDiff,Nat.reduceBEq,Nat.reduceBneDiff,Go.Proofs.Tryz.f176,List.replicate]
 refine zee [0,2] (fun n:Nat=>[(3,.one (.raw (.int .i64 n)))])
  (fun n=>n<=L.length/\zcm L L.length=zcm L n) (fun n=>n) L.length ⟨Nat.le_refl _,rfl⟩ ?_ ?_
 · refine rg ?_
   exact StLe.weaken (by repeat' first | exact .nil | refine .cons (by first | exact .refl _ | exact .any _) ?_) rfl
 rintro n ⟨hn,ht⟩
 refine rg ?_
 have fin:zcm L L.length=n->zep L=L.take n:=fun h=>by unfold zep;rw [h]
 refine zji (fun h=>?_) (fun h=>?_)
 · obtain ⟨m,rfl⟩:∃ m,n=m+1:=⟨n-1,by omega⟩
   have e:((m+1:Nat):Int)-1=(m:Nat):=by omega
   have h':=decide_eq_true h
   conv=>simp (maxSteps:=2000000) (disch:=omega) only [go_sem,Nat.reduceAdd,Nat.reduceSub,Nat.reduceMul,Int.reduceToNat,Nat.reduceEqDiff,Nat.reduceBEq,Nat.reduceBneDiff,h',e]
   refine zap (fun h2=>?_) (fun h2=>?_)
   · conv=>simp (maxSteps:=2000000) (disch:=omega) only [go_sem,Nat.reduceAdd,Nat.reduceSub,Nat.reduceMul,Int.reduceToNat,Nat.reduceEqDiff,Nat.reduceBEq,Nat.reduceBneDiff,e]
     exact ⟨m,⟨by omega,by rw [ht];simp only [zcm];rw [if_pos h2]⟩,by omega,StLe.weaken (by repeat' first | exact .nil | refine .cons (by first | exact .refl _ | exact .any _) ?_) rfl⟩
   · have hfin:zcm L L.length=m+1:=by rw [ht];simp only [zcm];rw [if_neg h2]
     rw [fin hfin]
     conv=>simp (maxSteps:=2000000) (disch:=omega) only [go_sem,Nat.reduceAdd,Nat.reduceSub,Nat.reduceMul,Int.reduceToNat,Nat.reduceEqDiff,Nat.reduceBEq,Nat.reduceBneDiff,e,Nat.sub_zero,List.length_take]
     exact ⟨_,rfl,.own⟩
 · have h0:n=0:=by omega
   subst h0
   rw [fin (by rw [ht];rfl)]
   conv=>simp (maxSteps:=2000000) (disch:=omega) only [go_sem,Nat.reduceAdd,Nat.reduceSub,Nat.reduceMul,Int.reduceToNat,Nat.reduceEqDiff,Nat.reduceBEq,Nat.reduceBneDiff,h,Nat.sub_zero,List.length_take]
   exact ⟨_,rfl,.one (.refl _)⟩
theorem ymw (s:Int) (L:List Int) (hL:L.length<=1099511627776) :
 za1 prog 164 [.one (.raw (.int .i64 s)),.one (.ints .i64 L)] (.agg (bigC (if zep L=[] then 0 else s) (zep L))):=by
 refine za1.run [] Go.Proofs.Tryz.func164 rfl rfl ?_;conv=>simp (maxSteps:=2000000) (disch:=omega) only [go_sem,Nat.reduceAdd,Nat.reduceSub,Nat.reduceMul,Int.reduceToNat,Nat.reduceEqDiff,Nat.reduceBEq,Nat.reduceBneDiff,Go.Proofs.Tryz.f164,List.replicate]
 refine za7 (zx3 L hL) ?_
 refine rg ?_
 refine zap (fun h=>?_) (fun h=>?_)
 · have h0:zep L=[]:=by have:(zep L).length=0:=(by omega);simpa using this
   refine rg ?_
   refine ⟨_,rfl,?_⟩
   rw [h0]
   exact .one (.agg (.cons (.refl _) (.cons (.zgw _) .nil)))
 · have h0:zep L≠[]:=fun e=>h (by rw [e];rfl)
   refine rg ?_
   refine ⟨_,rfl,?_⟩
   try rw [if_neg h0]
   exact .one (.refl _)
theorem zqq (s z:Int) (hz:(dig z.natAbs).length<=1073741824) (h:(s=1/\0<=z)∨(s = -1/\z<=0)∨z=0) :
 za1 prog 164 [.one (.raw (.int .i64 s)),.one (.ints .i64 (dig z.natAbs))] (.agg [.raw (.int .i64 (sg z)),.ints .i64 (dig z.natAbs)]):=by
 have h':=ymw s (dig z.natAbs) (by omega)
 unfold bigC at h'
 rw [ycx h] at h'
 exact h'
end Go.Slot.T
